import Derived.Test.YtdackeldhdchaaaGreatRows
import Derived.Deep.RegionHeld
import Derived.WalkKit
import Derived.WalkSpells
import Derived.WalkLawsBesides
import Derived.Deep.QuietTactic
import Derived.BigQuiet
import Derived.Lib.Hide
import Derived.Deep.AppendLies
import Derived.Deep.RegionLaw
import Derived.Maps.OwnSet
import Derived.Maps.OwnOps
import Derived.Maps.Ext
set_option maxRecDepth 100000
set_option maxHeartbeats 400000
namespace Go.Proofs.YtdackeldhdchaaaGreat
section
variable {P:Program} {ops:Array Oper} {Q:Exit->Act->World->Prop} {md:Region.Mode} {S E:World->Prop} {Ks:List Nat}
def amk (L:Array Bool) (Ks:List Nat):Bool:=Ks.all fun k=>!L.getD k false
theorem arc {L:Array Bool} {i:Nat} (h:i∉Ks):amk (L.setIfInBounds i true) Ks=amk L Ks:=by
 unfold amk
 induction Ks with
 | nil=>rfl
 | cons k t ih =>
  simp only [List.mem_cons,not_or] at h
  simp only [List.all_cons]
  rw [ih h.2,getD_set_ne false h.1]
def aiN (P:Program) (md:Region.Mode) (ops:Array Oper) (Q:Exit->Act->World->Prop) (S E:World->Prop) (Ks:List Nat):Nat->Array Bool->Act->World->Prop
 | 0,L,a,w=>Region.ready md ops L=[]/\Q .normal a w
 | fuel+1,L,a,w =>
  (Region.ready md ops L=[]->Q .normal a w) /\
  ∀ i,i∈Region.ready md ops L->wpOp P ops Q i (fun a' w'=>(S w'/\(amk (L.setIfInBounds i true) Ks=true->E w'))/\aiN P md ops Q S E Ks fuel (L.setIfInBounds i true) a' w') a w
theorem aqU:∀ (fuel:Nat) (L:Array Bool) (a:Act) (w:World),aiN P md ops Q S E Ks fuel L a w->wpAny P md ops Q fuel L a w
 | 0,_,_,_,h=>h
 | fuel+1,_,_,_,h=>⟨h.1,fun i hi=>wpOp_mono (fun a' w' h'=>aqU fuel _ a' w' h'.2) (h.2 i hi)⟩
theorem atS {C:World->Prop} {G:Array Bool->Prop} {i:Nat} {oi:Oper} {v:Value} (hi:ops[i]?=some oi) (hsel:∀ (j:Nat) (o:Oper) cs b,ops[j]?=some o->o.op≠.select cs b)
  (hQ:∀ c a w,Q (.panic c) (a.put oi.dst v) w->Q (.panic c) a w) (hik:i∉Ks)
  (hGs:∀ L,i∈Region.ready md ops L->G L->∀ j,j∈Region.ready md ops L->j≠i->G (L.setIfInBounds j true))
  (hCG:∀ L w,G L->S w->(amk L Ks=true->E w)->C w) :
  ∀ (fuel:Nat) (L:Array Bool) (a:Act) (w:World),
   (∀ j oj,ops[j]?=some oj->j≠i->L.getD j true=false->(∀ e,e∈oj.after->Region.binds md e=true->e.on≠i)->oi.apart ops oj=true) ->
   i∈Region.ready md ops L->YieldsIf P ops C oi v a->S w->(amk L Ks=true->E w)->G L ->
   aiN P md ops Q S E Ks fuel (L.setIfInBounds i true) (a.put oi.dst v) w->aiN P md ops Q S E Ks (fuel+1) L a w:=by
 intro fuel
 induction fuel with
 | zero =>
  intro L a w _ hr hy hS hE hg H
  refine ⟨fun h=>(by rw [h] at hr;cases hr),fun j hj=>?_⟩
  by_cases hji:j=i
  ·subst hji;exact hy.wpOp hi (hCG L w hg hS hE) ⟨⟨hS,fun hn=>hE (by rw [<- arc hik];exact hn)⟩,H⟩
  ·have:=ready_mono hj hji
   rw [H.1] at this;cases this
 | succ fuel ih =>
  intro L a w aGk hr hy hS hE hg H
  refine ⟨fun h=>(by rw [h] at hr;cases hr),fun j hj=>?_⟩
  by_cases hji:j=i
  ·subst hji;exact hy.wpOp hi (hCG L w hg hS hE) ⟨⟨hS,fun hn=>hE (by rw [<- arc hik];exact hn)⟩,H⟩
  ·have h1:=H.2 j (ready_mono hj hji)
   obtain ⟨aRl,oj,hoj,azJ⟩:=mem_ready.1 hj
   have aOQ:∀ e,e∈oj.after->Region.binds md e=true->e.on≠i:=fun e he hb heq=>by
    have h1:=azJ e he hb;have h0:=(mem_ready.1 hr).1;rw [heq] at h1
    rcases Nat.lt_or_ge i L.size with h' | h'
    ·simp [h'] at h0 h1;rw [h0] at h1;cases h1
    ·simp [Array.getElem?_eq_none h'] at h1
   have h2:=wpOp_putIf hoj (aGk j oj hoj hji aRl aOQ) (fun cs b=>hsel i oi cs b hi) (fun cs b=>hsel j oj cs b hoj) hQ hy h1
   have aOR:∀ k ok,ops[k]?=some ok->k≠i->(L.setIfInBounds j true).getD k true=false ->
     (∀ e,e∈ok.after->Region.binds md e=true->e.on≠i)->oi.apart ops ok=true:=fun k ok hk hki hun hno=>by
    refine aGk k ok hk hki ?_ hno
    by_cases hjk:j=k
    ·subst hjk;exact aRl
    ·rw [getD_set_ne true hjk] at hun;exact hun
   refine wpOp_mono (fun a' w' h3=>?_) h2;obtain ⟨hy',⟨hS',hE'⟩,hW⟩:=h3
   have hE2:amk (L.setIfInBounds j true) Ks=true->E w':=fun hn=>hE' (by rw [Array.setIfInBounds_comm _ _ (Ne.symm hji),arc hik];exact hn)
   refine ⟨⟨hS',hE2⟩,ih (L.setIfInBounds j true) a' w' aOR (ready_mono hr (Ne.symm hji)) hy' hS' hE2 (hGs L hr hg j hj hji) ?_⟩;rw [Array.setIfInBounds_comm _ _ hji];exact hW
def aIY (md:Region.Mode) (ops:Array Oper) (Ks:List Nat) (i:Nat):Bool :=
 Ks.all fun k=>(k != i)&&(match ops[k]? with | some o=>o.after.any (fun e=>Region.binds md e&&(e.on == i)) | none=>false)
theorem aE4 {i k:Nat} (h:aIY md ops Ks i=true) (hk:k∈Ks):k≠i/\∃ o,ops[k]?=some o/\∃ e,e∈o.after/\Region.binds md e=true/\e.on=i:=by
 have h1:=List.all_eq_true.1 h k hk
 simp only [Bool.and_eq_true,bne_iff_ne,ne_eq] at h1
 refine ⟨h1.1,?_⟩;have h2:=h1.2
 cases ho:ops[k]? with
 | none=>rw [ho] at h2;cases h2
 | some o =>
  rw [ho] at h2;obtain ⟨e,he,hb⟩:=Array.any_eq_true'.1 h2
  simp only [Bool.and_eq_true,beq_iff_eq] at hb
  exact ⟨o,rfl,e,he,hb.1,hb.2⟩
theorem afc {i:Nat} {oi:Oper} {v:Value} {fuel:Nat} {L:Array Bool} {a:Act} {w:World} (hi:ops[i]?=some oi)
  (hs:Region.noSelect ops=true) (hf:Region.free md ops L i=true) (hr:(Region.ready md ops L).contains i=true) (hik:Ks.contains i=false)
  (hQ:∀ c a w,Q (.panic c) (a.put oi.dst v) w->Q (.panic c) a w) (hy:YieldsIf P ops S oi v a) (hS:S w) (hE:amk L Ks=true->E w)
  (h:aiN P md ops Q S E Ks fuel (L.setIfInBounds i true) (a.put oi.dst v) w):aiN P md ops Q S E Ks (fuel+1) L a w :=
 atS (C:=S) (G:=fun _=>True) hi (Region.noSelect_spec hs) hQ (fun hm=>by simp [hm] at hik) (fun _ _ _ _ _ _=>trivial) (fun _ _ _ hS _=>hS) fuel L a w (Region.free_spec hi hf) (by simpa using hr) hy hS hE trivial h
theorem atT {i:Nat} {oi:Oper} {v:Value} {fuel:Nat} {L:Array Bool} {a:Act} {w:World} (hi:ops[i]?=some oi)
  (hs:Region.noSelect ops=true) (hf:Region.free md ops L i=true) (hr:(Region.ready md ops L).contains i=true) (hik:Ks.contains i=false) (hwt:aIY md ops Ks i=true) (hn:amk L Ks=true)
  (hQ:∀ c a w,Q (.panic c) (a.put oi.dst v) w->Q (.panic c) a w) (hy:YieldsIf P ops E oi v a) (hS:S w) (hE:amk L Ks=true->E w)
  (h:aiN P md ops Q S E Ks fuel (L.setIfInBounds i true) (a.put oi.dst v) w):aiN P md ops Q S E Ks (fuel+1) L a w :=
 atS (C:=E) (G:=fun L=>amk L Ks=true) hi (Region.noSelect_spec hs) hQ (fun hm=>by simp [hm] at hik) (fun L hri hg j hj hji=>by
  refine (arc fun hjK=>?_).trans hg;obtain ⟨_,o,ho,e,he,hb,heq⟩:=aE4 hwt hjK;obtain ⟨_,o',ho',azJ⟩:=mem_ready.1 hj
  rw [ho] at ho';cases ho'
  have h1:=azJ e he hb;have h0:=(mem_ready.1 hri).1;rw [heq] at h1
  rcases Nat.lt_or_ge i L.size with h' | h'
  ·simp [h'] at h0 h1;rw [h0] at h1;cases h1
  ·simp [Array.getElem?_eq_none h'] at h1) (fun _ _ hg _ hE=>hE hg) fuel L a w (Region.free_spec hi hf) (by simpa using hr) hy hS hE hn h
def aa7 (P:Program) (md:Region.Mode) (ops:Array Oper) (Q:Exit->Act->World->Prop) (S E:World->Prop) (Ks:List Nat) (fuel:Nat) (L:Array Bool) (a:Act) (w:World) (rs:List Nat):Prop :=
 ∀ i,i∈rs->wpOp P ops Q i (fun a' w'=>(S w'/\(amk (L.setIfInBounds i true) Ks=true->E w'))/\aiN P md ops Q S E Ks fuel (L.setIfInBounds i true) a' w') a w
theorem aa7.nil {fuel:Nat} {L:Array Bool} {a:Act} {w:World}:aa7 P md ops Q S E Ks fuel L a w []:=fun _ h=>by cases h
theorem aa7.cons {fuel:Nat} {L:Array Bool} {a:Act} {w:World} {i:Nat} {o:Oper} {rs:List Nat} (ho:ops[i]?=some o)
  (h:∀ K':Act->World->Prop,Shut (∀ a w,(S w/\(amk (L.setIfInBounds i true) Ks=true->E w))->((S w/\(amk (L.setIfInBounds i true) Ks=true->E w))->aiN P md ops Q S E Ks fuel (L.setIfInBounds i true) a w)->K' a w)->if Region.wanted o (yielded ops a.tmps)=true then Oper.wp P o a w K' Q else K' (a.put o.dst undef) w)
  (hs:aa7 P md ops Q S E Ks fuel L a w rs):aa7 P md ops Q S E Ks fuel L a w (i::rs):=fun j hj=>by
 rcases List.mem_cons.1 hj with rfl | hj
 ·exact wpOp_step ho (fun K' hK=>h K' (fun a w hS hW=>hK a w ⟨hS,hW hS⟩))
 ·exact hs j hj
theorem abZ {rs:List Nat} {fuel:Nat} {L:Array Bool} {a:Act} {w:World} (hr:Region.ready md ops L=rs) (hne:rs≠[])
  (h:aa7 P md ops Q S E Ks fuel L a w rs):aiN P md ops Q S E Ks (fuel+1) L a w:=⟨fun h0=>absurd (hr ▸ h0) hne,hr ▸ h⟩
theorem afM {L:Array Bool} {a:Act} {w:World} (hr:Region.ready md ops L=[]) (h:Q .normal a w) :
  ∀ fuel,aiN P md ops Q S E Ks fuel L a w
 | 0=>⟨hr,h⟩
 | _+1=>⟨fun _=>h,by rw [hr];simp⟩
theorem ahs {id:Nat} {a:Act} {w:World} (S E:World->Prop) (Ks:List Nat) (hm:P.follows .mixedOrders=true)
  (h:aiN P .any ops Q S E Ks ops.size (Array.replicate ops.size false) a w.drew):(Code.region id ops true).wp P Q a w :=
 wp_region_any hm (aqU _ _ _ _ h)
end
theorem noE {b:Bool} {p:Prop} (hb:b=false) (h:b=true):p:=by rw [hb] at h;cases h
end Go.Proofs.YtdackeldhdchaaaGreat
namespace Go.Proofs.YtdackeldhdchaaaGreat
open Go.RowKit
structure Upd (S:List Nat) (w w':World):Prop where
 os:w'.os=w.os
 tape:w'.tape=w.tape
 output:w'.output=w.output
 size:w.heap.size<=w'.heap.size
 block:∀ k,k<w.heap.size->k∉S->w'.heap[k]?=w.heap[k]?
theorem Upd.refl (S:List Nat) (w:World):Upd S w w:=⟨rfl,rfl,rfl,Nat.le_refl _,fun _ _ _=>rfl⟩
theorem Upd.then {S S':List Nat} {w w1 w2:World} (h:Upd S w w1) (k:Upd S' w1 w2) (hs:∀ x,x∈S'->x∈S\/w.heap.size<=x):Upd S w w2 :=
 ⟨k.os.trans h.os,k.tape.trans h.tape,k.output.trans h.output,Nat.le_trans h.size k.size,fun x hx hn =>
  (k.block x (Nat.lt_of_lt_of_le hx h.size) (fun hm=>by rcases hs x hm with h1 | h1;exact hn h1;omega)).trans (h.block x hx hn)⟩
theorem Upd.trans {S:List Nat} {w w1 w2:World} (h:Upd S w w1) (k:Upd S w1 w2):Upd S w w2:=h.then k fun _ h=>.inl h
theorem Upd.mono {S S':List Nat} {w w':World} (h:Upd S w w') (hs:∀ x,x∈S->x∈S'):Upd S' w w' :=
 ⟨h.os,h.tape,h.output,h.size,fun x hx hn=>h.block x hx fun hm=>hn (hs x hm)⟩
theorem Upd.alloc {S:List Nat} {w w':World} (h:Upd S w w') (o:Obj):Upd S w (w'.alloc o) :=
 ⟨h.os,h.tape,h.output,by have:=h.size;simp;omega,fun k hk hn=>(Below.heap_alloc _ _ _ (by have:=h.size;omega)).trans (h.block k hk hn)⟩
theorem Upd.setCell {S:List Nat} {w w':World} (h:Upd S w w') {p:Addr} (hp:p.block∈S\/w.heap.size<=p.block) (u:Value):Upd S w (w'.setCell p u) :=
 ⟨h.os,h.tape,h.output,by have:=h.size;simpa [World.setCell] using this,fun k hk hn=>(Below.heap_setCell _ _ _ _ (by rintro rfl;rcases hp with hp | hp;exact hn hp;omega)).trans (h.block k hk hn)⟩
theorem Upd.drew {S:List Nat} {w w':World} (h:Upd S w w'):Upd S w w'.drew:=⟨h.os,h.tape,h.output,h.size,h.block⟩
theorem Upd.drewN {S:List Nat} {w w':World} (h:Upd S w w') (n:Nat):Upd S w (w'.drewN n):=⟨h.os,h.tape,h.output,h.size,h.block⟩
theorem Upd.of_drew {S:List Nat} {w w':World} (h:Upd S w.drew w'):Upd S w w':=⟨h.os,h.tape,h.output,h.size,h.block⟩
theorem Upd.grown {S:List Nat} {w w1 w2:World} {row:Option Nat} (h:Upd S w w1) (hg:w1.grownBy w2 row) (hr:∀ k,row=some k->k∈S\/w.heap.size<=k):Upd S w w2 :=
 ⟨hg.os.trans h.os,hg.tape.trans h.tape,hg.output.trans h.output,Nat.le_trans h.size hg.size,fun k hk hn =>
  (hg.block k (Nat.lt_of_lt_of_le hk h.size) fun e=>by rcases hr k e.symm with h1 | h1;exact hn h1;omega).trans (h.block k hk hn)⟩
theorem Upd.cell {S:List Nat} {w w':World} (h:Upd S w w') {a:Addr} (hl:a.block<w.heap.size) (hn:a.block∉S):w'.cell? a=w.cell? a:=World.cell?_of_block (h.block _ hl hn)
theorem Upd.frozen {S:List Nat} {w w':World} (h:Upd S w w') {a:Addr} (hl:a.block<w.heap.size) (hn:a.block∉S):w'.frozen? a=w.frozen? a:=World.frozen?_of_block (h.block _ hl hn)
def Sub (F:List Nat) (w:World) (F':List Nat):Prop:=∀ k,k∈F'->k∈F\/w.heap.size<=k
theorem Sub.refl (F:List Nat) (w:World):Sub F w F:=fun _ h=>.inl h
theorem aIZ (g j:Nat):(⟨g,0,none⟩ : Addr).add j=⟨g,j,none⟩:=by unfold Addr.add;split <;> simp_all
theorem aa4 {w:World} {b:Nat} {o:Obj} (h:w.heap[b]?=some o):b<w.heap.size:=(Array.getElem?_eq_some_iff.1 h).1
theorem aac {w:World} {b j:Nat} {cs:Array Value} {t:TypeId} {fr:Nat × Nat} {v:Value} (h:w.heap[b]?=some (.cells cs t fr)) (hv:cs[j]?=some v):w.cell? ⟨b,j,none⟩=some v:=by
 simp [World.cell?,h,hv]
theorem abq {w:World} {b:Nat} {cs:Array Value} {t:TypeId} (j:Nat) (h:w.heap[b]?=some (.cells cs t (0,0))):w.frozen? ⟨b,j,none⟩=false:=by
 simp [World.frozen?,h]
theorem aaX {w w':World} {base:Nat} {e:TypeId} {sz:Nat} {v:Value} {n:Nat} {xs:List Value} (h:w.ownsRow base e sz v n xs)
  (hk:∀ k,v.ownBlock=some k->w'.heap[k]?=w.heap[k]?):w'.ownsRow base e sz v n xs:=by
 obtain ⟨a,c⟩:=h;refine ⟨a,?_⟩
 rcases c with c | ⟨g,cap,cur,rfl,hg,hh,rest⟩
 ·exact .inl c
 ·exact .inr ⟨g,cap,cur,rfl,hg,by rw [hk g rfl];exact hh,rest⟩
theorem ajT {w:World} {base:Nat} {e:TypeId} {sz:Nat} {g n' c n:Nat} {xs:List Value} (h:w.ownsRow base e sz (.slice (some ⟨g,0,none⟩) n' c) n xs) :
  n'=n/\n<=c/\c<=maxLen/\∃ cur,w.heap[g]?=some (.cells cur e (0,0))/\cur.size=c*sz/\cur.toList.take (n*sz)=xs:=by
 obtain ⟨_,(⟨c,_⟩ | ⟨g',cap,cur,e',hg,hh,h1,h2,h3,h4⟩)⟩:=h
 ·simp at c
 ·simp at e'
  obtain ⟨rfl,rfl,rfl⟩:=e';exact ⟨rfl,h1,h2,cur,hh,h3,h4⟩
theorem abf {w:World} {base:Nat} {e:TypeId} {sz:Nat} {g n' c n:Nat} {xs:List Value} (h:w.ownsRow base e sz (.slice (some ⟨g,0,none⟩) n' c) n xs) {j:Nat} {u:Value} (hj:xs[j]?=some u) :
  w.cell? ⟨g,j,none⟩=some u:=by rw [<- aIZ];exact h.cells (g:=g) rfl j u hj
theorem aci {w:World} {base:Nat} {e:TypeId} {sz:Nat} {g n' c n:Nat} {xs:List Value} (h:w.ownsRow base e sz (.slice (some ⟨g,0,none⟩) n' c) n xs) (j:Nat) :
  w.frozen? ⟨g,j,none⟩=false:=by
 obtain ⟨_,_,_,cur,h1,_,_⟩:=ajT h;exact abq j h1
theorem ae1 {w:World} {base:Nat} {e:TypeId} {sz:Nat} {g n' c n:Nat} {xs:List Value} (h:w.ownsRow base e sz (.slice (some ⟨g,0,none⟩) n' c) n xs) {j:Nat} (hj:j<n*sz) (u:Value) :
  (w.setCell ⟨g,j,none⟩ u).ownsRow base e sz (.slice (some ⟨g,0,none⟩) n' c) n (xs.set j u):=by
 obtain ⟨a,(⟨c,_⟩ | ⟨g',cap,cur,e',hg,hh,h1,h2,h3,h4⟩)⟩:=h
 ·simp at c
 ·simp at e'
  obtain ⟨rfl,rfl,rfl⟩:=e';refine ⟨by simpa using a,.inr ⟨g,c,cur.setIfInBounds j u,rfl,hg,?_,h1,h2,by simpa using h3,?_⟩⟩
  ·simp [World.setCell,Array.getElem?_modify,hh]
  ·rw [Array.toList_setIfInBounds,List.take_set,h4]
theorem ax3 {w:World} {base:Nat} {e:TypeId} {sz:Nat} {g n' c n:Nat} {xs:List Value} (h:w.ownsRow base e sz (.slice (some ⟨g,0,none⟩) n' c) n xs) {m:Nat} (hm:m<=n) :
  w.ownsRow base e sz (.slice (some ⟨g,0,none⟩) m c) m (xs.take (m*sz)):=by
 obtain ⟨a,(⟨c,_⟩ | ⟨g',cap,cur,e',hg,hh,h1,h2,h3,h4⟩)⟩:=h
 ·simp at c
 ·simp at e'
  obtain ⟨rfl,rfl,rfl⟩:=e';have hms:=Nat.mul_le_mul_right sz hm;refine ⟨by rw [List.length_take,a];omega,.inr ⟨g,c,cur,rfl,hg,hh,by omega,h2,h3,?_⟩⟩
  rw [<- h4,List.take_take];congr 1;omega
theorem acb {w:World} {a:Addr} {u:Value} {k:Nat} (h:k≠a.block):(w.setCell a u).heap[k]?=w.heap[k]?:=Below.heap_setCell _ _ _ _ h
theorem abV {w:World} {b j:Nat} {cs:Array Value} {t:TypeId} {fr:Nat × Nat} (h:w.heap[b]?=some (.cells cs t fr)) (u:Value) :
  (w.setCell ⟨b,j,none⟩ u).heap[b]?=some (.cells (cs.setIfInBounds j u) t fr):=by
 simp [World.setCell,Array.getElem?_modify,h]
theorem ac9 {w:World} {base:Nat} {e:TypeId} {sz:Nat} {v:Value} {n:Nat} {xs:List Value} (h:w.ownsRow base e sz v n xs) {a:Addr} (ha:some a.block≠v.ownBlock) (u:Value) :
  (w.setCell a u).ownsRow base e sz v n xs:=aaX h fun k hk=>acb (by rintro rfl;exact ha hk.symm)
theorem akR {w:World} {base:Nat} {e:TypeId} {sz:Nat} {v:Value} {n:Nat} {xs:List Value} (h:w.ownsRow base e sz v n xs):w.drew.ownsRow base e sz v n xs:=h
theorem aet {w:World} {base base':Nat} {e:TypeId} {sz:Nat} {v:Value} {n:Nat} {xs:List Value} (h:w.ownsRow base e sz v n xs) (hb:base'<=base):w.ownsRow base' e sz v n xs:=by
 obtain ⟨a,(c | ⟨g,cap,cur,e',hg,rest⟩)⟩:=h
 ·exact ⟨a,.inl c⟩
 ·exact ⟨a,.inr ⟨g,cap,cur,e',Nat.le_trans hb hg,rest⟩⟩
theorem abI {w:World} {base:Nat} {e:TypeId} {sz n:Nat} {v:Value} {xs:List Value} (h:w.ownsRow base e sz v n xs) :
  ∃ (a:Option Addr) (c:Nat),v=.slice a n c/\(a=none/\n=0/\c=0\/∃ g,a=some ⟨g,0,none⟩):=by
 obtain ⟨a,(⟨c,hn⟩ | ⟨g',cap,cur,e',hg,hh,h1,h2,h3,h4⟩)⟩:=h
 ·subst hn;exact ⟨none,0,c,.inl ⟨rfl,rfl,rfl⟩⟩
 ·exact ⟨_,_,e',.inr ⟨_,rfl⟩⟩
theorem aeP {w:World} {base:Nat} {e:TypeId} {sz n' n:Nat} {a:Option Addr} {c:Nat} {xs:List Value} (h:w.ownsRow base e sz (.slice a n' c) n xs) (hn:0<n):∃ g,a=some ⟨g,0,none⟩:=by
 obtain ⟨g,cap,e',_⟩:=h.form hn
 simp at e'
 exact ⟨g,e'.1⟩
structure abu where
 var:Int
 lo:Nat
 hi:Nat
 taken:Bool
 count:Nat
structure aaU where
 places:Nat
 list:List abu
 free:List Nat
 used:Nat
def abu.flat (p:abu):List Value:=[.int .i64 p.var,.int .u32 p.lo,.int .u32 p.hi,.bool p.taken,.int .u8 p.count]
def ack (l:List abu):List Value:=l.flatMap abu.flat
def ach (l:List Nat):List Value:=l.map fun (r:Nat)=>Value.int .u32 r
def aaU.tk (A:aaU) (r:Nat):Bool:=match A.list[r]? with | some p=>p.taken | none=>false
def aaU.checkE (A:aaU) (v:Int) (lo hi:Nat):Int:=if v<0\/64<=v then 2 else if A.tk lo=false\/A.tk hi=false then 3 else 0
def abu.zero:abu:=⟨0,0,0,false,0⟩
structure aaU.Ok (A:aaU):Prop where
 p2:2<=A.places
 pm:A.places<=1048576
 l2:2<=A.list.length
 lp:A.list.length<=A.places
 nd:A.free.Nodup
 fr:∀ r,r∈A.free↔∃ p,A.list[r]?=some p/\p.taken=false
 us:A.used+A.free.length=A.list.length
 c0:A.list[0]?=some ⟨-1,0,0,true,255⟩
 c1:A.list[1]?=some ⟨-1,1,1,true,255⟩
 u32:∀ p,p∈A.list->p.lo<=4294967295/\p.hi<=4294967295/\p.count<=255
def aaU.new (places:Nat):aaU:=⟨places,[⟨-1,0,0,true,255⟩,⟨-1,1,1,true,255⟩],[],2⟩
theorem aaU.new_ok {n:Nat} (h2:2<=n) (hm:n<=1048576):(aaU.new n).Ok:=by
 refine ⟨h2,hm,by simp [aaU.new],by simpa [aaU.new] using h2,by simp [aaU.new],?_,by simp [aaU.new],rfl,rfl,?_⟩
 ·intro r
  match r with
  | 0=>simp [aaU.new]
  | 1=>simp [aaU.new]
  | r+2=>simp [aaU.new]
 ·intro p hp
  simp [aaU.new] at hp
  rcases hp with rfl | rfl <;> simp
def aaU.put (A:aaU) (F:List Nat) (r:Nat) (v:Int) (lo hi:Nat):aaU:={ A with list:=A.list.set r ⟨v,lo,hi,true,0⟩,free:=F,used:=A.used+1 }
def aaU.push (A:aaU) (v:Int) (lo hi:Nat):aaU:={ A with list:=A.list++[⟨v,lo,hi,true,0⟩],used:=A.used+1 }
def aaU.drop (A:aaU) (r:Nat):aaU:={ A with list:=A.list.set r abu.zero,free:=A.free++[r],used:=A.used-1 }
def aaU.setNode (A:aaU) (r:Nat) (v:Int) (lo hi:Nat):aaU :=
  { A with list:=match A.list[r]? with | some p=>A.list.set r { p with var:=v,lo:=lo,hi:=hi } | none=>A.list }
theorem aaU.tk_lt {A:aaU} {r:Nat} (h:A.tk r=true):r<A.list.length:=by
 unfold aaU.tk at h
 split at h
 ·rename_i p hp;exact (List.getElem?_eq_some_iff.1 hp).1
 ·simp at h
theorem aaU.tk_iff {A:aaU} {r:Nat}:A.tk r=true↔∃ p,A.list[r]?=some p/\p.taken=true:=by
 unfold aaU.tk;split
 ·rename_i p hp;simp [hp]
 ·rename_i hp;simp [hp]
theorem aaU.Ok.tk01 {A:aaU} (h:A.Ok):A.tk 0=true/\A.tk 1=true:=by simp [aaU.tk,h.c0,h.c1]
theorem aaU.Ok.push {A:aaU} (h:A.Ok) (hl:A.list.length<A.places) {v:Int} {lo hi:Nat} (h1:lo<=4294967295) (h2:hi<=4294967295):(A.push v lo hi).Ok:=by
 have hl2:=h.l2;refine ⟨h.p2,h.pm,by simp [aaU.push];omega,by simp [aaU.push];omega,h.nd,?_,?_,?_,?_,?_⟩
 ·intro r
  have:=h.fr r
  simp only [aaU.push,List.getElem?_append]
  rw [this];split
  ·rfl
  ·rename_i hn
   rw [List.getElem?_eq_none (by omega)]
   simp only [List.getElem?_singleton]
   split <;> simp
 ·have:=h.us;simp [aaU.push];omega
 ·simp only [aaU.push];rw [List.getElem?_append_left (by omega)];exact h.c0
 ·simp only [aaU.push];rw [List.getElem?_append_left (by omega)];exact h.c1
 ·intro p hp
  simp [aaU.push] at hp
  rcases hp with hp | rfl
  ·exact h.u32 p hp
  ·exact ⟨h1,h2,by simp⟩
theorem aml {α : Type} {l:List α} {r:Nat} {x p:α} (h:p∈l.set r x):p∈l\/p=x:=by
 rcases List.mem_or_eq_of_mem_set h with h | h
 ·exact .inl h
 ·exact .inr h
theorem aaU.Ok.put {A:aaU} (h:A.Ok) {F:List Nat} {r:Nat} (hf:A.free=F++[r]) {v:Int} {lo hi:Nat} (h1:lo<=4294967295) (h2:hi<=4294967295):(A.put F r v lo hi).Ok:=by
 obtain ⟨p,hp,ht⟩:=(h.fr r).1 (by rw [hf];simp);have hlt:=(List.getElem?_eq_some_iff.1 hp).1;have hnd:=h.nd;rw [hf,List.nodup_append] at hnd
 have hr0:r≠0:=by rintro rfl;rw [h.c0] at hp;cases hp;simp at ht
 have hr1:r≠1:=by rintro rfl;rw [h.c1] at hp;cases hp;simp at ht
 refine ⟨h.p2,h.pm,by simpa [aaU.put] using h.l2,by simpa [aaU.put] using h.lp,hnd.1,?_,?_,?_,?_,?_⟩
 ·intro x
  have hx:=h.fr x
  simp only [aaU.put]
  by_cases e:x=r
  ·subst e
   rw [List.getElem?_set_self hlt];constructor
   ·intro hm;exact absurd rfl (hnd.2.2 x hm x (by simp))
   ·rintro ⟨p,hp,ht⟩;cases hp;simp at ht
  ·rw [List.getElem?_set_ne (Ne.symm e),<- hx,hf]
   simp [e]
 ·have:=h.us;rw [hf] at this;simp [aaU.put] at this ⊢;omega
 ·simp only [aaU.put];rw [List.getElem?_set_ne hr0];exact h.c0
 ·simp only [aaU.put];rw [List.getElem?_set_ne hr1];exact h.c1
 ·intro p hp
  rcases aml hp with hp | rfl
  ·exact h.u32 p hp
  ·exact ⟨h1,h2,by simp⟩
theorem aaU.Ok.drop {A:aaU} (h:A.Ok) {r:Nat} (ht:A.tk r=true) (h0:2<=r):(A.drop r).Ok:=by
 obtain ⟨p,hp,ht⟩:=aaU.tk_iff.1 ht;have hlt:=(List.getElem?_eq_some_iff.1 hp).1
 have hnf:r∉A.free:=by
  intro hm
  obtain ⟨q,hq,hqt⟩:=(h.fr r).1 hm
  rw [hp] at hq;cases hq;simp [ht] at hqt
 have hfl:A.free.length<A.list.length:=by
  have arN:(r::A.free).Nodup:=List.nodup_cons.2 ⟨hnf,h.nd⟩
  have:(r::A.free).length<=(List.range A.list.length).length:=by
   refine List.Nodup.length_le_of_subset arN ?_
   intro x hx
   simp at hx
   rcases hx with rfl | hx
   ·simpa using hlt
   ·obtain ⟨q,hq,_⟩:=(h.fr x).1 hx
    simpa using (List.getElem?_eq_some_iff.1 hq).1
  simp at this
  omega
 refine ⟨h.p2,h.pm,by simpa [aaU.drop] using h.l2,by simpa [aaU.drop] using h.lp,?_,?_,?_,?_,?_,?_⟩
 ·simp only [aaU.drop]
  rw [List.nodup_append];refine ⟨h.nd,by simp,?_⟩
  intro a ha b hb
  simp at hb;subst hb
  rintro rfl;exact hnf ha
 ·intro x
  have hx:=h.fr x
  simp only [aaU.drop]
  by_cases e:x=r
  ·subst e
   rw [List.getElem?_set_self hlt]
   simp [abu.zero]
  ·rw [List.getElem?_set_ne (Ne.symm e),<- hx]
   simp [e]
 ·have:=h.us;simp [aaU.drop];omega
 ·simp only [aaU.drop];rw [List.getElem?_set_ne (by omega)];exact h.c0
 ·simp only [aaU.drop];rw [List.getElem?_set_ne (by omega)];exact h.c1
 ·intro p hp
  rcases aml hp with hp | rfl
  ·exact h.u32 p hp
  ·simp [abu.zero]
theorem aaU.Ok.setNode {A:aaU} (h:A.Ok) {r:Nat} (h0:2<=r) {v:Int} {lo hi:Nat} (h1:lo<=4294967295) (h2:hi<=4294967295):(A.setNode r v lo hi).Ok:=by
 unfold aaU.setNode
 cases hp:A.list[r]? with
 | none=>simpa using h
 | some p =>
  have hlt:=(List.getElem?_eq_some_iff.1 hp).1;refine ⟨h.p2,h.pm,by simpa using h.l2,by simpa using h.lp,h.nd,?_,by simpa using h.us,?_,?_,?_⟩
  ·intro x
   have hx:=h.fr x
   by_cases e:x=r
   ·subst e
    simp only
    rw [List.getElem?_set_self hlt,hx,hp];simp
   ·simp only
    rw [List.getElem?_set_ne (Ne.symm e),<- hx]
  ·simp only;rw [List.getElem?_set_ne (by omega)];exact h.c0
  ·simp only;rw [List.getElem?_set_ne (by omega)];exact h.c1
  ·intro q hq
   rcases aml hq with hq | rfl
   ·exact h.u32 q hq
   ·exact ⟨h1,h2,(h.u32 p (List.mem_of_getElem? hp)).2.2⟩
theorem afu:∀ (l:List abu) (r j:Nat),j<5->(ack l)[r*5+j]?=(l[r]?).bind (fun p=>p.flat[j]?):=by
 intro l
 induction l with
 | nil=>intro r j h;simp [ack]
 | cons p t ih =>
  intro r j h
  cases r with
  | zero=>simp [ack,List.flatMap_cons];rw [List.getElem?_append_left (by simpa [abu.flat] using h)]
  | succ r =>
   have:=ih r j h
   simp only [ack,List.flatMap_cons] at this ⊢
   rw [List.getElem?_append_right (by simp [abu.flat];omega)]
   simp [abu.flat] at this ⊢
   rw [<- this]
   congr 1
   omega
theorem aC5:∀ (l:List abu) (r:Nat) (p:abu),ack (l.set r p) =
  (((((ack l).set (r*5) (.int .i64 p.var)).set (r*5+1) (.int .u32 p.lo)).set (r*5+2) (.int .u32 p.hi)).set (r*5+3) (.bool p.taken)).set (r*5+4) (.int .u8 p.count):=by
 intro l
 induction l with
 | nil=>intro r p;simp [ack]
 | cons q t ih =>
  intro r p
  cases r with
  | zero=>simp [ack,List.flatMap_cons,abu.flat]
  | succ r =>
   have:=ih r p
   have hh:∀ (k:Nat),(r+1)*5+k=(r*5+k)+5:=by omega
   have h0:(r+1)*5=(r*5)+5:=by omega
   simp only [ack,List.set_cons_succ,List.flatMap_cons] at this ⊢
   rw [this,hh 1,hh 2,hh 3,hh 4,h0]
   simp [abu.flat,List.set_cons_succ]
abbrev set5 (w:World) (l r:Nat) (p:abu):World :=
 ((((w.setCell ⟨l,r*5,none⟩ (.int .i64 p.var)).setCell ⟨l,r*5+1,none⟩ (.int .u32 p.lo)).setCell ⟨l,r*5+2,none⟩ (.int .u32 p.hi)).setCell ⟨l,r*5+3,none⟩ (.bool p.taken)).setCell ⟨l,r*5+4,none⟩ (.int .u8 p.count)
theorem aMc {w:World} {l r k:Nat} {p:abu} (h:k≠l):(set5 w l r p).heap[k]?=w.heap[k]? :=
 ((((acb h).trans (acb h)).trans (acb h)).trans (acb h)).trans (acb h)
theorem anT {w:World} {l r:Nat} {p:abu}:(set5 w l r p).heap.size=w.heap.size:=by simp [World.setCell]
theorem Upd.set5 {S:List Nat} {w w':World} (h:Upd S w w') {l:Nat} (hl:l∈S) (r:Nat) (p:abu):Upd S w (set5 w' l r p) :=
 ((((h.setCell (.inl hl) _).setCell (.inl hl) _).setCell (.inl hl) _).setCell (.inl hl) _).setCell (.inl hl) _
theorem aAT {w:World} {e:TypeId} {l n' c n r:Nat} {L:List abu} (h:w.ownsRow 0 e 5 (.slice (some ⟨l,0,none⟩) n' c) n (ack L)) (hr:r<n) (p:abu) :
  (((((w.setCell ⟨l,r*5,none⟩ (.int .i64 p.var)).setCell ⟨l,r*5+1,none⟩ (.int .u32 p.lo)).setCell ⟨l,r*5+2,none⟩ (.int .u32 p.hi)).setCell ⟨l,r*5+3,none⟩ (.bool p.taken)).setCell ⟨l,r*5+4,none⟩ (.int .u8 p.count)).ownsRow 0 e 5
   (.slice (some ⟨l,0,none⟩) n' c) n (ack (L.set r p)):=by
 rw [aC5];exact ae1 (ae1 (ae1 (ae1 (ae1 h (by omega) _) (by omega) _) (by omega) _) (by omega) _) (by omega) _
structure acR (w:World) (b:Nat) (A:aaU) (F:List Nat):Prop where
  cells:∃ l lc fv,w.heap[b]?=some (.cells #[.int .i64 A.places,.slice (some ⟨l,0,none⟩) A.list.length lc,fv,.int .i64 A.used] 235 (0,0)) ∧
     w.ownsRow 0 267 5 (.slice (some ⟨l,0,none⟩) A.list.length lc) A.list.length (ack A.list) ∧
     w.ownsRow 0 77 1 fv A.free.length (ach A.free)∧F=[b,l] ++ fv.ownBlock.toList∧b≠l∧some b≠fv.ownBlock∧some l≠fv.ownBlock
  ok:A.Ok
theorem acR.lt {w:World} {b:Nat} {A:aaU} {F:List Nat} (h:acR w b A F):∀ k,k∈F->k<w.heap.size:=by
 obtain ⟨l,lc,fv,h1,h2,h3,rfl,_⟩:=h.cells
 intro k hk
 simp at hk
 rcases hk with rfl | rfl | hk
 ·exact aa4 h1
 ·exact (h2.lt _ rfl).2
 ·exact (h3.lt _ hk).2
theorem acR.keep {w w':World} {b:Nat} {A:aaU} {F:List Nat} (h:acR w b A F) (hk:∀ k,k∈F->w'.heap[k]?=w.heap[k]?):acR w' b A F:=by
 obtain ⟨l,lc,fv,h1,h2,h3,rfl,hr⟩:=h.cells;refine ⟨⟨l,lc,fv,by rw [hk b (by simp)];exact h1,aaX h2 ?_,aaX h3 ?_,rfl,hr⟩,h.ok⟩
 ·rintro k hk';cases hk';exact hk _ (by simp)
 ·intro k hk';exact hk _ (by simp [hk'])
theorem acR.upd {w w':World} {b:Nat} {A:aaU} {F S:List Nat} (h:acR w b A F) (u:Upd S w w') (hd:∀ k,k∈F->k∉S):acR w' b A F :=
 h.keep fun k hk=>u.block k (h.lt k hk) (hd k hk)
theorem acR.head {w:World} {b:Nat} {A:aaU} {F:List Nat} (h:acR w b A F):b∈F:=by
 obtain ⟨l,lc,fv,h1,h2,h3,rfl,hr⟩:=h.cells;simp
theorem ajU (b:Nat) (F:List Nat) (r:Nat) (A:aaU) (w:World) (h:acR w b A F) (amm:r<=4294967295) :
  Calls Tryz.prog 213 #[.pointer (some ⟨b,0,none⟩),.int .u32 r] w fun e w'=>e=.returned (.bool (A.tk r))/\w=w':=by
 obtain ⟨l,lc,fv,h1,h2,h3,_,_⟩:=h.cells;have hp:=h.ok.pm;have hl':=h.ok.lp;have hl:w.cell? ⟨b,1,none⟩=some (.slice (some ⟨l,0,none⟩) A.list.length lc):=aac h1 rfl;clear h1 h3
 by_cases hr:r<A.list.length
 ·have hg:A.list[r]?=some A.list[r]:=List.getElem?_eq_getElem hr
  have hc:w.cell? ⟨l,r*5+3,none⟩=some (.bool A.list[r].taken):=abf h2 (by rw [afu _ _ _ (by omega),hg];rfl)
  have htk:A.tk r=A.list[r].taken:=by simp [aaU.tk,hg]
  rw [htk];clear htk hg h2 h
  go_enter Tryz.func213,Tryz.ntmps213
  go_wp2
  go_ret;exact ⟨rfl,rfl⟩
 ·have hg:A.list[r]?=none:=List.getElem?_eq_none (by omega)
  have htk:A.tk r=false:=by simp [aaU.tk,hg]
  rw [htk];clear htk hg h2 h
  have hd:decide (r<A.list.length)=false:=by simpa using hr
  go_enter Tryz.func213,Tryz.ntmps213
  go_wp2
  go_ret;exact ⟨rfl,rfl⟩
theorem aoS (b:Nat) (F:List Nat) (v:Int) (lo hi:Nat) (A:aaU) (w:World) (h:acR w b A F) (h1:lo<=4294967295) (h2:hi<=4294967295) :
  Calls Tryz.prog 191 #[.pointer (some ⟨b,0,none⟩),.agg #[.int .i64 v,.int .u32 lo,.int .u32 hi]] w fun e w'=>e=.returned (.int .i64 (A.checkE v lo hi))/\Upd [] w w':=by
 have h':=fun o=>h.upd ((Upd.refl [] w).alloc o) (by simp)
 by_cases hv:v<0\/64<=v
 ·have e:A.checkE v lo hi=2:=by simp [aaU.checkE,hv]
  rw [e];clear e h' h
  by_cases hv0:v<0
  ·go_enter Tryz.func191,Tryz.ntmps191
   go_wp2
   go_ret;exact ⟨rfl,(Upd.refl _ _).alloc _⟩
  ·have hv1:64<=v:=by omega
   have hv1:decide (v<0)=false:=by simpa using hv0
   go_enter Tryz.func191,Tryz.ntmps191
   go_wp2
   go_ret;exact ⟨rfl,(Upd.refl _ _).alloc _⟩
 ·have hv0:0<=v:=by omega
  have hv1:v<64:=by omega
  have hd:decide (v<0)=false:=by simpa using hv0
  have e:A.checkE v lo hi=if A.tk lo=false\/A.tk hi=false then 3 else 0:=by unfold aaU.checkE;rw [if_neg hv]
  rw [e];clear e hv h
  rcases hlo:A.tk lo
  ·simp only [true_or,if_true]
   have HL:=Lib.hid hlo;clear hlo
   go_enter Tryz.func191,Tryz.ntmps191
   go_wp2_with (go_at_call 213;refine (ajU b F lo A _ (h' _) (by omega)).mono ?_;rintro e w' ⟨rfl,rfl⟩;rw [HL.out])
   go_ret;exact ⟨rfl,(Upd.refl _ _).alloc _⟩
  ·rcases hhi:A.tk hi
   all_goals
    have HL:=Lib.hid hlo;clear hlo
    have HH:=Lib.hid hhi;clear hhi
    go_enter Tryz.func191,Tryz.ntmps191
    go_wp2_with fail;refine (ajU b F lo A _ (h' _) (by omega)).mono ?_
    rintro e w' ⟨rfl,rfl⟩;rw [HL.out]
    go_wp2_with fail;refine (ajU b F hi A _ (h' _) (by omega)).mono ?_
    rintro e w' ⟨rfl,rfl⟩;rw [HH.out]
    go_wp2_with fail;go_ret;exact ⟨by simp,(Upd.refl _ _).alloc _⟩
def aaU.ownE (A:aaU) (r:Nat):Int:=if 2<=r/\A.tk r=true then 0 else 3
theorem aC6 (b:Nat) (F:List Nat) (r:Nat) (A:aaU) (w:World) (h:acR w b A F) (amm:r<=4294967295) :
  Calls Tryz.prog 192 #[.pointer (some ⟨b,0,none⟩),.int .u32 r] w fun e w'=>e=.returned (.int .i64 (A.ownE r))/\w=w':=by
 by_cases h2:2<=r
 ·have hd:decide (r<=1)=false:=by simp;omega
  have hd':decide ((r:Int)<=1)=false:=by simp;omega
  rcases ht:A.tk r
  all_goals
   have e:A.ownE r=if A.tk r=true then 0 else 3:=by simp [aaU.ownE,h2]
   rw [e,ht];clear e
   have HT:=Lib.hid ht;clear ht
   simp only [if_true,Bool.false_eq_true,if_false]
   go_enter Tryz.func192,Tryz.ntmps192
   go_wp2_with fail;refine (ajU b F r A _ h (by omega)).mono ?_
   rintro e w' ⟨rfl,rfl⟩;rw [HT.out]
   go_wp2_with fail;go_ret;exact ⟨rfl,rfl⟩
 ·have hd:(r:Int)<=1:=by omega
  have e:A.ownE r=3:=by simp [aaU.ownE,h2]
  rw [e];clear e
  go_enter Tryz.func192,Tryz.ntmps192
  go_wp2
  go_ret;exact ⟨rfl,rfl⟩
theorem aAV (b:Nat) (F:List Nat) (A:aaU) (w:World) (h:acR w b A F) :
  Calls Tryz.prog 87 #[.pointer (some ⟨b,0,none⟩)] w fun e w'=>e=.returned (.int .i64 A.used)/\w=w':=by
 obtain ⟨l,lc,fv,h1,h2,h3,_,_⟩:=h.cells;have hl:w.cell? ⟨b,3,none⟩=some (.int .i64 A.used):=aac h1 rfl;clear h1 h2 h3 h
 go_enter Tryz.func87,Tryz.ntmps87
 go_wp2
 go_ret;exact ⟨rfl,rfl⟩
theorem av2 (b:Nat) (F:List Nat) (A:aaU) (w:World) (h:acR w b A F) :
  Calls Tryz.prog 136 #[.pointer (some ⟨b,0,none⟩)] w fun e w'=>e=.returned (.int .i64 A.places)/\w=w':=by
 obtain ⟨l,lc,fv,h1,h2,h3,_,_⟩:=h.cells;have hl:w.cell? ⟨b,0,none⟩=some (.int .i64 A.places):=aac h1 rfl;clear h1 h2 h3 h
 go_enter Tryz.func136,Tryz.ntmps136
 go_wp2
 go_ret;exact ⟨rfl,rfl⟩
theorem aOS (b:Nat) (F:List Nat) (r:Nat) (A:aaU) (w:World) (h:acR w b A F) (amm:r<=4294967295) (ht:A.tk r=false) :
  Calls Tryz.prog 180 #[.pointer (some ⟨b,0,none⟩),.int .u32 r] w fun e w'=>e=.returned (.tuple #[.agg #[.int .i64 0,.int .u32 0,.int .u32 0],.int .i64 3])/\Upd [] w w':=by
 have h':=fun o=>h.upd ((Upd.refl [] w).alloc o) (by simp)
 have HT:=Lib.hid ht;clear ht
 go_enter Tryz.func180,Tryz.ntmps180
 go_wp2_with fail;refine (ajU b F r A _ (h' _) (by omega)).mono ?_
 rintro e w' ⟨rfl,rfl⟩;rw [HT.out]
 go_wp2_with fail;refine bodyPost_ret (v:=.tuple #[.agg #[.int .i64 0,.int .u32 0,.int .u32 0],.int .i64 3]) (by simp [results,Tryz.results180,go_sem]) rfl ⟨rfl,?_⟩;exact (Upd.refl _ _).alloc _
theorem aGl (b:Nat) (F:List Nat) (r:Nat) (A:aaU) (p:abu) (w:World) (h:acR w b A F) (amm:r<=4294967295) (hp:A.list[r]?=some p) (ht:p.taken=true) :
  Calls Tryz.prog 180 #[.pointer (some ⟨b,0,none⟩),.int .u32 r] w fun e w'=>e=.returned (.tuple #[.agg #[.int .i64 p.var,.int .u32 p.lo,.int .u32 p.hi],.int .i64 0])/\Upd [] w w':=by
 have h':=fun o=>h.upd ((Upd.refl [] w).alloc o) (by simp)
 have htk:A.tk r=true:=aaU.tk_iff.2 ⟨p,hp,ht⟩
 have HT:=Lib.hid htk;clear htk ht
 have hlt:=(List.getElem?_eq_some_iff.1 hp).1;obtain ⟨l,lc,fv,h1,h2,h3,_,_⟩:=h.cells;have hpm:=h.ok.pm;have hlp:=h.ok.lp;have hl:w.cell? ⟨b,1,none⟩=some (.slice (some ⟨l,0,none⟩) A.list.length lc):=aac h1 rfl;have g0:w.cell? ⟨l,r*5,none⟩=some (.int .i64 p.var):=abf h2 (j:=r*5+0) (by rw [afu _ _ _ (by omega),hp];rfl);have g1:w.cell? ⟨l,r*5+1,none⟩=some (.int .u32 p.lo):=abf h2 (by rw [afu _ _ _ (by omega),hp];rfl);have g2:w.cell? ⟨l,r*5+2,none⟩=some (.int .u32 p.hi):=abf h2 (by rw [afu _ _ _ (by omega),hp];rfl);have hb:b<w.heap.size:=h.lt _ h.head;have hll:l<w.heap.size:=(h2.lt _ rfl).2;clear h1 h2 h3 h hp
 go_enter Tryz.func180,Tryz.ntmps180
 go_wp2_with fail;refine (ajU b F r A _ (h' _) (by omega)).mono ?_
 rintro e w' ⟨rfl,rfl⟩;rw [HT.out]
 go_wp2_with fail;refine bodyPost_ret (v:=.tuple #[.agg #[.int .i64 p.var,.int .u32 p.lo,.int .u32 p.hi],.int .i64 0]) (by simp [results,Tryz.results180,go_sem]) rfl ⟨rfl,?_⟩;exact (Upd.refl _ _).alloc _
theorem Tryz.infoPlace:(Tryz.prog.info? 267).map (fun i=>(i.zero,i.size,i.bytes))=some (some (.agg #[.int .i64 0,.int .u32 0,.int .u32 0,.bool false,.int .u8 0]),5,24):=by kernel_rfl
theorem Tryz.infoRef:(Tryz.prog.info? 77).map (fun i=>(i.zero,i.size,i.bytes))=some (some (.int .u32 0),1,4):=by kernel_rfl
end Go.Proofs.YtdackeldhdchaaaGreat
namespace Go.Proofs.YtdackeldhdchaaaGreat
open Go.RowKit Go.Maps Go.ChangeMaps
abbrev DM:=DataW Unit
theorem amg {w:World} {P:Program} {k:TypeId} {R:Value->Option (DM × List MemPlace)} {b n:Nat} {D:DM} (h:w.ownsMap P k R b n D):w.ownsMap P k R b (Maps.size D) D:=by
 obtain ⟨es,clock,hb,F,hs,rfl⟩:=h;refine ⟨es,clock,hb,F,?_,rfl⟩
 simp [Maps.size,length_sorted]
theorem aev {w w':World} {P:Program} {k:TypeId} {R:Value->Option (DM × List MemPlace)} {b n:Nat} {D:DM} (h:w.ownsMap P k R b n D) (hk:w'.heap[b]?=w.heap[b]?):w'.ownsMap P k R b n D:=by
 obtain ⟨es,clock,hb,r⟩:=h;exact ⟨es,clock,by rw [hk];exact hb,r⟩
theorem ajV {w w':World} {b:Nat} (h:w.mapTurned w' b):Upd [b] w w':=by
 obtain ⟨es,clock,es',aOT,hb,rfl⟩:=h;refine ⟨rfl,rfl,rfl,by simp [setBlock],fun k hk hn=>?_⟩
 simp at hn
 simp [setBlock,Array.getElem?_setIfInBounds]
 intro e;exact absurd e.symm hn
theorem aG3 {w w':World} {b k:Nat} (h:w.mapTurned w' b) (hk:k≠b):w'.heap[k]?=w.heap[k]?:=by
 obtain ⟨es,clock,es',aOT,hb,rfl⟩:=h
 simp [setBlock,Array.getElem?_setIfInBounds]
 intro e;exact absurd e.symm hk
theorem ai7 {D:DM} (hc:Maps.Canon D) {ks:List Lit} (h:∀ k,Maps.has D k=true->k∈ks) (ht:Tidy D):Maps.size D<=ks.length:=by
 obtain ⟨es,rfl,hs,hk⟩:=hc;obtain ⟨es',e,hp⟩:=ht;cases e
 have hnd:(es.map (·.1)).Nodup:=by
  rw [List.nodup_iff_pairwise_ne,List.pairwise_map];exact hp
 have arN:es.map (·.1) ⊆ ks:=by
  intro k hk'
  obtain ⟨p,hp',rfl⟩:=List.mem_map.1 hk';refine h _ ?_
  simp only [Maps.has,List.any_eq_true]
  exact ⟨p,hp',WideAt.sameKey_self (hk p hp')⟩
 have:=List.Nodup.length_le_of_subset hnd arN
 simpa [Maps.size] using this
end Go.Proofs.YtdackeldhdchaaaGreat
