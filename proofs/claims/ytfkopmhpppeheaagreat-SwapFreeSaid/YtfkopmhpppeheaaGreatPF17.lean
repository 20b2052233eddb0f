import Derived.Test.YtfkopmhpppeheaaGreatPF16
import Derived.Test.YtfkopmhpppeheaaGreatPF1
import Derived.BigRegion
set_option maxRecDepth 100000
set_option maxHeartbeats 3200000
namespace Go.Proofs.YtfkopmhpppeheaaGreat
open Go.RowKit Go.Maps Go.ChangeMaps Go.WideShapes
theorem Upd.cell0 {w w':World} (u:Upd [] w w') {a:Addr} {v:Value} (h:w.cell? a=some v):w'.cell? a=some v:=(u.cell (World.block_lt_of_cell? _ _ h) (by simp)).trans h
structure MV where
 n:Nat
 c:Nat
 order:List Nat
 held:List (TV × Nat)
 trail:List Nat
def MV.tabs (M:MV):List TV:=M.held.map (·.1)
def flatH (H:List (TV × Nat)) (cs:List Value):List Value:=(H.zip cs).flatMap fun p=>[Value.int .i64 p.1.1.n,p.2,.int .i64 p.1.2]
theorem flatH_get {H:List (TV × Nat)} {cs:List Value} (hl:cs.length=H.length) {i:Nat} {h:TV × Nat} {c:Value} (ht:H[i]?=some h) (hc:cs[i]?=some c):(flatH H cs)[i*3]?=some (.int .i64 h.1.n)/\(flatH H cs)[i*3+1]?=some c/\(flatH H cs)[i*3+2]?=some (.int .i64 h.2):=by
 induction H generalizing cs i with
 | nil=>simp at ht
 | cons a L ih =>
  cases cs with
  | nil=>simp at hl
  | cons d cs =>
   have hl':cs.length=L.length:=by simpa using hl
   have e:flatH (a::L) (d::cs)=Value.int .i64 a.1.n::d::.int .i64 a.2::flatH L cs:=rfl
   cases i with
   | zero=>simp at ht hc;subst ht hc;rw [e];exact ⟨rfl,rfl,rfl⟩
   | succ i =>
    simp at ht hc
    obtain ⟨h1,h2,h3⟩:=ih hl' ht hc;rw [e]
    have e1:(i+1)*3=i*3+1+1+1:=by omega
    have e2:(i+1)*3+1=i*3+1+1+1+1:=by omega
    have e3:(i+1)*3+2=i*3+2+1+1+1:=by omega
    refine ⟨?_,?_,?_⟩
    ·rw [e1];simpa using h1
    ·rw [e2];simpa using h2
    ·rw [e3];simpa using h3
theorem flatH_snoc {H:List (TV × Nat)} {cs:List Value} (hl:cs.length=H.length) (h:TV × Nat) (c:Value):flatH (H++[h]) (cs++[c])=flatH H cs++[Value.int .i64 h.1.n,c,.int .i64 h.2]:=by
 unfold flatH
 rw [List.zip_append hl.symm,List.flatMap_append];rfl
structure MPtr where
 ov:Value
 hv:Value
 tv:Value
def MPtr.all (p:MPtr) (m:Nat):List Nat:=m::(p.ov.ownBlock.toList++(p.hv.ownBlock.toList++p.tv.ownBlock.toList))
theorem MPtr.mem {p:MPtr} {m k:Nat}:k∈p.all m↔k=m\/p.ov.ownBlock=some k\/p.hv.ownBlock=some k\/p.tv.ownBlock=some k:=by
 simp [MPtr.all]
structure HLs (w:World) (Z:List Nat) (v:Value) (H:List (TV × Nat)):Prop where
 ex:∃ cs:List Value,cs.length=H.length/\w.ownsRow 0 264 3 v H.length (flatH H cs)/\∀ (i:Nat) (h:TV × Nat) (c:Value),H[i]?=some h->cs[i]?=some c->TIn w Z c h.1
structure ModIn (w:World) (m:Nat) (M:MV) (p:MPtr) (Z:List Nat):Prop where
 blk:w.heap[m]?=some (.cells #[.int .i64 M.n,.int .i64 M.c,p.ov,p.hv,p.tv] 53 (0,0))
 os:w.ownsRow 0 3 1 p.ov M.order.length (flatN M.order)
 hs:HLs w Z p.hv M.held
 ts:w.ownsRow 0 3 1 p.tv M.trail.length (flatN M.trail)
 ne:∀ k,p.ov.ownBlock=some k->p.tv.ownBlock≠some k
 sz:∀ k,k∈p.all m->k∈Z
theorem HLs.row {w:World} {Z:List Nat} {v:Value} {H:List (TV × Nat)} (h:HLs w Z v H):∃ xs,w.ownsRow 0 264 3 v H.length xs:=by
 obtain ⟨cs,_,hr,_⟩:=h.ex;exact ⟨_,hr⟩
theorem HLs.keep {w w':World} {Z S:List Nat} {v:Value} {H:List (TV × Nat)} (h:HLs w Z v H) (u:Upd S w w') (hS:∀ k,k∈S->k∈Z\/w.heap.size<=k) (hv:∀ k,v.ownBlock=some k->k∉S):HLs w' Z v H:=by
 obtain ⟨cs,h1,h2,h3⟩:=h.ex;exact ⟨cs,h1,row_keep h2 fun k hk=>u.block k (h2.lt k hk).2 (hv k hk),fun i t c ht hc=>(h3 i t c ht hc).keep u hS⟩
theorem HLs.apart {w:World} {Z Z':List Nat} {v:Value} {H:List (TV × Nat)} (h:HLs w Z v H) (hs:Sub Z w Z'):HLs w Z' v H:=by
 obtain ⟨cs,h1,h2,h3⟩:=h.ex;exact ⟨cs,h1,h2,fun i t c ht hc=>(h3 i t c ht hc).apart hs⟩
theorem HLs.form {w:World} {Z:List Nat} {v:Value} {H:List (TV × Nat)} (h:HLs w Z v H):∃ (a:Option Addr) (c:Nat),v=.slice a H.length c/\(0<H.length->∃ g,a=some ⟨g,0,none⟩):=by
 obtain ⟨xs,hr⟩:=h.row;obtain ⟨a,c,hv,hh⟩:=row_nil_len hr;refine ⟨a,c,hv,fun hp=>?_⟩
 rcases hh with ⟨_,h0,_⟩ | hh
 ·omega
 ·exact hh
theorem HLs.at_ {w:World} {n' cp g:Nat} {Z:List Nat} {H:List (TV × Nat)} (h:HLs w Z (.slice (some ⟨g,0,none⟩) n' cp) H) {i:Nat} {t:TV × Nat} (ht:H[i]?=some t) :
  ∃ c,w.cell? ⟨g,i*3,none⟩=some (.int .i64 t.1.n)/\w.cell? ⟨g,i*3+1,none⟩=some c/\w.cell? ⟨g,i*3+2,none⟩=some (.int .i64 t.2)/\TIn w Z c t.1:=by
 obtain ⟨cs,h1,h2,h3⟩:=h.ex
 have hil:i<H.length:=by
  by_cases e:i<H.length
  ·exact e
  ·rw [List.getElem?_eq_none (by omega)] at ht;cases ht
 have hc:cs[i]?=some (cs[i]'(by omega)):=List.getElem?_eq_getElem (by omega);obtain ⟨e1,e2,e3⟩:=flatH_get h1 ht hc;exact ⟨_,row_cell h2 e1,row_cell h2 e2,row_cell h2 e3,h3 i t _ ht hc⟩
theorem ModIn.keep {w w':World} {m:Nat} {M:MV} {p:MPtr} {Z S:List Nat} (h:ModIn w m M p Z) (u:Upd S w w') (hS:∀ k,k∈S->k∈Z\/w.heap.size<=k) (hd:∀ k,k∈p.all m->k∉S):ModIn w' m M p Z:=by
 refine ⟨by rw [u.block m (heap_lt h.blk) (hd m (MPtr.mem.2 (.inl rfl)))];exact h.blk,row_keep h.os fun k hk=>u.block k (h.os.lt k hk).2 (hd k (MPtr.mem.2 (.inr (.inl hk)))),?_,row_keep h.ts fun k hk=>u.block k (h.ts.lt k hk).2 (hd k (MPtr.mem.2 (.inr (.inr (.inr hk))))),h.ne,h.sz⟩
 exact h.hs.keep u hS fun k hk=>hd k (MPtr.mem.2 (.inr (.inr (.inl hk))))
theorem ModIn.keep0 {w w':World} {m:Nat} {M:MV} {p:MPtr} {Z:List Nat} (h:ModIn w m M p Z) (u:Upd [] w w'):ModIn w' m M p Z:=h.keep u (by simp) (by simp)
theorem ModIn.apart {w:World} {m:Nat} {M:MV} {p:MPtr} {Z Z':List Nat} (h:ModIn w m M p Z) (hs:Sub Z w Z') (hz:∀ k,k∈p.all m->k∈Z'):ModIn w m M p Z' :=
 ⟨h.blk,h.os,h.hs.apart hs,h.ts,h.ne,hz⟩
theorem ModIn.cells {w:World} {m:Nat} {M:MV} {p:MPtr} {Z:List Nat} (h:ModIn w m M p Z) :
  w.cell? ⟨m,0,none⟩=some (.int .i64 M.n)/\w.cell? ⟨m,1,none⟩=some (.int .i64 M.c)/\w.cell? ⟨m,2,none⟩=some p.ov/\w.cell? ⟨m,3,none⟩=some p.hv/\w.cell? ⟨m,4,none⟩=some p.tv :=
 ⟨cell_at h.blk rfl,cell_at h.blk rfl,cell_at h.blk rfl,cell_at h.blk rfl,cell_at h.blk rfl⟩
theorem boxH (w:World) (x y z:Value):(w.alloc (.cells #[x,y,z] 264 (0,0))).cell? ⟨w.heap.size,0,none⟩=some x/\(w.alloc (.cells #[x,y,z] 264 (0,0))).cell? ⟨w.heap.size,1,none⟩=some y/\(w.alloc (.cells #[x,y,z] 264 (0,0))).cell? ⟨w.heap.size,2,none⟩=some z:=by
 have h:=heap_alloc_new w (.cells #[x,y,z] 264 (0,0));exact ⟨cell_at h rfl,cell_at h rfl,cell_at h rfl⟩
theorem tables_spec (m:Nat) (M:MV) (p:MPtr) (Z:List Nat) (w:World) (h:ModIn w m M p Z) (hZ:∀ k,k∈Z->k<w.heap.size) (hl:M.held.length<=4194304) :
  Calls Tryz.prog 149 #[.pointer (some ⟨m,0,none⟩)] w fun e w'=>TLQ Z M.tabs w e w':=by
 obtain ⟨ti,hi2,hz2,hs2,hb2⟩:=info_parts Tryz.infoTable;have HI:=Lib.hid (And.intro hi2 (And.intro hz2 (And.intro hs2 hb2)));obtain ⟨fa,fc,hfv,hfa⟩:=h.hs.form;obtain ⟨_,_,_,c3,_⟩:=h.cells;rw [hfv] at c3;have hs:=h.hs;rw [hfv] at hs;have HL:=Lib.hid hs;have HZ:=Lib.hid hZ;have HT:Hid (M.tabs=M.held.map (·.1)):=rfl;generalize M.held=H at *;clear h hZ hi2 hz2 hs2 hb2 hfv hs
 go_enter Tryz.func149,Tryz.ntmps149
 go_wp2_with fail
 go_loopg [3,11] H.length (fun g s3 s8 wr=>∃ i:Nat,H.length-i=g/\i<=H.length/\s8=.int .i64 i/\TLs wr w.heap.size Z s3 ((H.take i).map (·.1))/\Upd [] w wr)
 case atStart=>exact ⟨0,by omega,by omega,rfl,by simpa using TLs.nil w w.heap.size Z,Upd.refl _ _⟩
 case round =>
  obtain ⟨i,rfl,hi,rfl,hT,hU⟩:=hrel
  by_cases hlt:i<H.length
  ·obtain ⟨u,hu⟩ : ∃ u,H[i]?=some u:=⟨_,List.getElem?_eq_getElem hlt⟩
   obtain ⟨ga,rfl⟩:=hfa (by omega);obtain ⟨cu,x0,x1,x2,htu⟩:=(HL.out.keep hU (by simp) (by simp)).at_ hu;obtain ⟨ua,uc,hcu,_⟩:=row_nil_len htu.row;subst hcu;obtain ⟨oa,oc,hov,_⟩:=hT.form;subst hov
   have hil:(i:Int)<(H.length:Int):=by omega
   have hul:((H.take i).map (·.1)).length<=4194304:=by
    rw [List.length_map,List.length_take];omega
   have HS:Hid ((H.take (i+1)).map (·.1)=(H.take i).map (·.1)++[u.1]):=by
    show _=_
    rw [List.take_add_one,hu];simp
   generalize (H.take i).map (·.1)=UL at *;obtain ⟨z0,z1,z2⟩:=boxH wr (.int .i64 u.1.n) (.slice ua u.1.ws.length uc) (.int .i64 u.2);have hUB:=(Upd.refl [] wr).alloc (.cells #[.int .i64 u.1.n,.slice ua u.1.ws.length uc,.int .i64 u.2] 264 (0,0));have HT3:=Lib.hid (And.intro (hT.keep0 hUB) (And.intro (htu.keep0 hUB) (hU.trans hUB)));obtain ⟨t,k⟩:=u
   simp only at *
   generalize hUW:t.ws.length=UW at *;generalize hun:t.n=un at *;have HUN:=Lib.hid (And.intro hUW hun);obtain ⟨xs,hrow⟩:=HT3.out.1.row;have HROW:=Lib.hid hrow
   have HC2:Hid (∀ z,z∈[Value.int .i64 un,Value.slice ua UW uc]->z.oneCell'=true):=by
    intro z hz;simp at hz;rcases hz with rfl | rfl <;> rfl
   have hsz3:=HT3.out.2.2.size
   have hbs:w.heap.size<=((wr.alloc (.cells #[.int .i64 un,.slice ua UW uc,.int .i64 k] 264 (0,0))).alloc (.cells #[.int .i64 un,.slice ua UW uc] 122 (0,0))).heap.size:=by rw [World.size_alloc];omega
   clear htu hT hU hu hUB hUW hun hrow
   go_wp2_with (at_builtin;go_must (refine wpList_append_lies _ rfl (.tmp 15) (.tmp 18) 22 rfl w.heap.size 122 ti _ 2 32 Tryz.underlying22 HI.out.1 HI.out.2.1 HI.out.2.2.1 HI.out.2.2.2 (by rfl) (by decide) _ UL.length xs rfl (HROW.out.alloc _) ⟨wr.heap.size+1,0,none⟩ 1 1 [.int .i64 un,.slice ua UW uc] rfl rfl ?c1 HC2.out (by omega) (by unfold maxLen;omega) (by omega) hbs _ rfl ?_))
   case c1=>exact World.news_of_block (by
    have:=heap_alloc_new (wr.alloc (.cells #[.int .i64 un,.slice ua UW uc,.int .i64 k] 264 (0,0))) (.cells #[.int .i64 un,.slice ua UW uc] 122 (0,0))
    rw [World.size_alloc] at this;exact this)
   intro g5 cap w5 hown hgr hat hlt5
   have HE:Hid (TLs w5 w.heap.size Z (.slice (some ⟨g5,0,none⟩) (UL.length+1) cap) (UL++[t])/\Upd [] w w5):=by
    have hp:=HT3.out.1.push HT3.out.2.1 (by omega) HZ.out hgr HROW.out (by rw [HUN.out.2];exact hown);refine ⟨hp.1,HT3.out.2.2.then (hp.2 (Value.slice oa UL.length oc).ownBlock.toList fun k hk=>.inl (by rw [hk];simp)) fun k hk=>.inr ?_⟩
    have hk':(Value.slice oa UL.length oc).ownBlock=some k:=by simpa using hk
    exact (HROW.out.lt k hk').1
   clear hown hgr hat hlt5;go_wp2_with fail
   go_roundg (H.length-(i+1))
   case measure=>omega
   case rel=>exact ⟨i+1,rfl,by omega,by simp,by rw [HS.out];exact HE.out.1,HE.out.2⟩
  ·obtain rfl:i=H.length:=by omega
   have hil:¬ ((H.length:Int)<(H.length:Int)):=by omega
   have HE:Hid (TLs wr w.heap.size Z _ M.tabs/\Upd [] w wr):=⟨by rw [HT.out];rw [List.take_length] at hT;exact hT,hU⟩;clear hT hU;go_wp2_with fail;go_ret;exact ⟨_,rfl,HE.out⟩
structure MV.Fit (M:MV):Prop where
 hl:M.held.length<=65536
 n6:M.n<=8
 ol:M.order.length<=8
 on:∀ x,x∈M.order->x<M.n
 tn:∀ t,t∈M.tabs->t.Ok/\t.n=M.n
 cb:M.c<=1048576
def MV.lev (M:MV):List (List TV):=levT (unlikeT M.tabs) M.order
theorem mlevels_spec (m:Nat) (M:MV) (p:MPtr) (Z:List Nat) (w:World) (h:ModIn w m M p Z) (hZ:∀ k,k∈Z->k<w.heap.size) (hf:M.Fit) :
  Calls Tryz.prog 147 #[.pointer (some ⟨m,0,none⟩)] w fun e w'=>TLLQ Z M.lev w e w':=by
 obtain ⟨oa,oc,hov,_⟩:=row_nil_len h.os;obtain ⟨_,_,c2,_,_⟩:=h.cells;rw [hov] at c2;have HM:=Lib.hid h;have HF:=Lib.hid hf;have HOV:=Lib.hid hov
 have HZ:Hid (∀ x:World,Upd [] w x->∀ k,k∈Z->k<x.heap.size):=fun x u k hk=>Nat.lt_of_lt_of_le (hZ k hk) u.size
 have HTB:=Lib.hid (tables_spec m M p Z w.drew (h.keep0 (Upd.refl _ _).drew) hZ (by have:=hf.hl;omega))
 have HL0:Hid (M.tabs.length<=4194304):=by show _<=_;unfold MV.tabs;rw [List.length_map];have:=hf.hl;omega
 clear h hZ hf hov
 go_enter Tryz.func147,Tryz.ntmps147
 go_wp2_with fail
 go_region_held3 (fun w'=>w'.cell? ⟨m,2,none⟩=some (.slice oa M.order.length oc)) (first | exact c2 | exact HT.out.2.cell0 c2 | exact (HT.out.2.trans HS.out.2).cell0 c2) (first | (go_at_call 149;refine HTB.out.mono ?_;rintro e w3 hE;obtain ⟨cf,rfl,hT,hu⟩:=hE.ex;have HT:=Lib.hid (And.intro hT hu.of_drew);clear hE hT hu) | (go_at_call 148;refine (levels_spec _ 0 Z _ _ M.tabs M.order M.n _ HT.out.1 (HZ.out _ HT.out.2) HL0.out (fun t ht=>(HF.out.tn t ht).2) HF.out.n6 (row_keep (by have:=HM.out.os;rw [HOV.out] at this;exact this) fun k hk=>HT.out.2.block k (HM.out.os.lt k (by rw [HOV.out];exact hk)).2 (by simp)) HF.out.ol HF.out.on).mono ?_;rintro e w4 hE;obtain ⟨cf,rfl,hS,hu⟩:=hE.ex;have HS:=Lib.hid (And.intro hS hu);clear hE hS hu))
 go_wp2_with fail;go_ret;exact ⟨_,rfl,HS.out.1.base HT.out.2.size,HT.out.2.trans HS.out.2⟩
theorem row_inj {w:World} {b1 b2:Nat} {e:TypeId} {sz n1 n2:Nat} {v:Value} {xs ys:List Value} (h1:w.ownsRow b1 e sz v n1 xs) (h2:w.ownsRow b2 e sz v n2 ys):n1=n2->xs=ys:=by
 intro hn
 subst hn;obtain ⟨e1,c1⟩:=h1;obtain ⟨e2,c2⟩:=h2
 rcases c1 with ⟨rfl,h0⟩ | ⟨g,cap1,cur1,rfl,hg,hh,_,_,_,k1⟩
 ·rcases c2 with ⟨_,_⟩ | ⟨g,cap2,cur2,e,_⟩
  ·have a1:xs.length=0:=by rw [e1,h0];simp
   have a2:ys.length=0:=by rw [e2,h0];simp
   rw [List.length_eq_zero_iff.1 a1,List.length_eq_zero_iff.1 a2]
  ·simp at e
 ·rcases c2 with ⟨e,_⟩ | ⟨g',cap2,cur2,e,hg',hh',_,_,_,k2⟩
  ·simp at e
  ·simp at e
   obtain ⟨rfl,_⟩:=e
   rw [hh] at hh';cases hh'
   rw [<- k1,<- k2]
theorem flatTT_one {L:List TV} {cs:List Value} (h:∀ c,c∈cs->c.oneCell'=true):∀ u,u∈flatTT L cs->u.oneCell'=true:=by
 intro u hu
 unfold flatTT at hu;obtain ⟨p,hp,hu⟩:=List.mem_flatMap.1 hu
 simp only [List.mem_cons,List.not_mem_nil,or_false] at hu
 rcases hu with rfl | rfl
 ·rfl
 ·exact h _ (List.of_mem_zip hp).2
theorem TLs.src {w:World} {n0:Nat} {Z:List Nat} {v:Value} {L:List TV} (h:TLs w n0 Z v L):∃ (A:Option Addr) (c:Nat) (ys:List Value),v=.slice A L.length c/\(A=none->L.length=0)/\w.ownsRow n0 122 2 v L.length ys/\ys.length=L.length*2 /\
  (∀ ad,A=some ad->∀ (j:Nat) u,ys[j]?=some u->w.cell? (ad.add j)=some u)/\∀ u,u∈ys->u.oneCell'=true:=by
 obtain ⟨cs,h1,h2,h3⟩:=h.ex;obtain ⟨a,c,hv,hh⟩:=row_nil_len h2;refine ⟨a,c,_,hv,?_,h2,h2.1,?_,flatTT_one fun c hc=>?_⟩
 ·rintro rfl
  rcases hh with ⟨_,h0,_⟩ | ⟨g,hg⟩
  ·exact h0
  ·cases hg
 ·intro ad had j u hj
  rcases hh with ⟨h0,_⟩ | ⟨g,hg⟩
  ·rw [h0] at had;cases had
  ·rw [hg] at had;cases had
   rw [hg] at hv;exact h2.cells (g:=g) (by rw [hv];rfl) j u hj
 ·obtain ⟨i,hi⟩:=List.getElem?_of_mem hc
  have hil:i<L.length:=by
   by_cases e:i<cs.length
   ·omega
   ·rw [List.getElem?_eq_none (by omega)] at hi;cases hi
  obtain ⟨a,c',hv',_⟩:=row_nil_len (h3 i _ c (List.getElem?_eq_getElem hil) hi).row
  rw [hv'];rfl
theorem TLs.cat {w w5:World} {n0 n1:Nat} {Z:List Nat} {v v2 v':Value} {L L2:List TV} (h:TLs w n0 Z v L) (h2:TLs w n1 Z v2 L2) (hZ:∀ k,k∈Z->k<n0) (hgr:w.grownBy w5 v.ownBlock) {xs ys:List Value}
  (hrow:w.ownsRow n0 122 2 v L.length xs) (hrow2:w.ownsRow n1 122 2 v2 L2.length ys) (hown:w5.ownsRow n0 122 2 v' (L.length+L2.length) (xs++ys)) :
  TLs w5 n0 Z v' (L++L2)/\Upd v.ownBlock.toList w w5:=by
 obtain ⟨cs,a1,a2,a3⟩:=h.ex;obtain ⟨cs2,b1,b2,b3⟩:=h2.ex;obtain rfl:=row_inj hrow a2 rfl;obtain rfl:=row_inj hrow2 b2 rfl
 have hu:Upd v.ownBlock.toList w w5:=(Upd.refl _ w).grown hgr fun k hk=>.inl (by rw [hk];simp)
 have keep:∀ {u:TV} {d:Value},TIn w Z d u->TIn w5 Z d u:=fun {u d} hd=>⟨hd.ok,row_keep hd.row fun k hk=>hu.block k (hd.row.lt k hk).2 fun hm=>by
  have hm':v.ownBlock=some k:=by simpa using hm
  obtain ⟨c1,f1,e1⟩:=row_type a2 hm';obtain ⟨c2,f2,e2⟩:=row_type hd.row hk;rw [e1] at e2
  injection e2 with e2
  injection e2 with _ e2 _
  exact absurd e2 (by decide),hd.fr⟩
 refine ⟨⟨⟨cs++cs2,by simp [a1,b1],?_,fun i u d hu' hd=>?_⟩,fun k hk hm=>?_⟩,hu⟩
 ·have e:flatTT (L++L2) (cs++cs2)=flatTT L cs++flatTT L2 cs2:=by
   unfold flatTT;rw [List.zip_append a1.symm,List.flatMap_append]
  rw [e,List.length_append];exact hown
 ·by_cases hi:i<L.length
  ·rw [List.getElem?_append_left hi] at hu'
   rw [List.getElem?_append_left (by omega)] at hd;exact keep (a3 i u d hu' hd)
  ·rw [List.getElem?_append_right (by omega)] at hu'
   rw [List.getElem?_append_right (by omega),a1] at hd;exact keep (b3 _ u d hu' hd)
 ·have h4:=(hown.lt k hk).1
  have h5:=hZ k hm;omega
theorem msize_spec (m n0:Nat) (M:MV) (p:MPtr) (Z:List Nat) (v:Value) (L:List TV) (w:World) (h:ModIn w m M p Z) (hZ:∀ k,k∈Z->k<w.heap.size) (hf:M.Fit) (hv:TLs w n0 Z v L) (hL:∀ t,t∈L->t.n=M.n) (hl:L.length<=4194304) :
  Calls Tryz.prog 127 #[.pointer (some ⟨m,0,none⟩),v] w fun e w'=>e=.returned (.int .i64 ((flatT L M.order).length:Nat))/\Upd [] w w':=by
 obtain ⟨oa,oc,hov,_⟩:=row_nil_len h.os;obtain ⟨_,_,c2,_,_⟩:=h.cells;rw [hov] at c2;have hos:=h.os;rw [hov] at hos;have HS:=Lib.hid (size5_spec n0 0 Z v _ L M.order M.n w hv hZ hl hL hf.n6 hos hf.ol hf.on);generalize (flatT L M.order).length=S at *;clear h hZ hf hv hL hl hov hos
 go_enter Tryz.func127,Tryz.ntmps127
 go_wp2_with fail;refine HS.out.mono ?_;rintro e w1 ⟨rfl,hu⟩;have HU:=Lib.hid hu;clear hu HS;go_wp2_with fail;go_ret;exact ⟨rfl,HU.out⟩
theorem flatT_le6 {L:List TV} {o:List Nat} (ho:o.length<=8) (hl:L.length<=4194304):(flatT L o).length<=8589934592:=levF_len6 ho (Nat.le_trans (unlikeT_len L) hl)
def MV.fits (M:MV) (X:List TV):Bool:=decide (2+(flatT (M.tabs++X) M.order).length<=M.c)
theorem fits9_spec (m n0:Nat) (M:MV) (p:MPtr) (Z:List Nat) (v:Value) (X:List TV) (w:World) (h:ModIn w m M p Z) (hZ:∀ k,k∈Z->k<w.heap.size) (hf:M.Fit) (hv:TLs w n0 Z v X) (hX:∀ t,t∈X->t.n=M.n) (hl:X.length<=1000) :
  Calls Tryz.prog 138 #[.pointer (some ⟨m,0,none⟩),v] w fun e w'=>e=.returned (.bool (M.fits X))/\Upd [] w w':=by
 obtain ⟨ti,hi2,hz2,hs2,hb2⟩:=info_parts Tryz.infoTable;have HI:=Lib.hid (And.intro hi2 (And.intro hz2 (And.intro hs2 hb2)));obtain ⟨_,c1,_,_,_⟩:=h.cells;have HM:=Lib.hid h;have HF:=Lib.hid hf;have HV:=Lib.hid hv;have HX:=Lib.hid hX
 have HZ:Hid (∀ x:World,Upd [] w x->∀ k,k∈Z->k<x.heap.size):=fun x u k hk=>Nat.lt_of_lt_of_le (hZ k hk) u.size
 have htl:M.tabs.length<=65536:=by unfold MV.tabs;rw [List.length_map];exact hf.hl
 have HTB:=Lib.hid (tables_spec m M p Z w h hZ (by have:=hf.hl;omega));obtain ⟨xa,xc,rfl,_⟩:=hv.form;clear h hZ hf hv hX hi2 hz2 hs2 hb2
 go_enter Tryz.func138,Tryz.ntmps138
 go_wp2_with fail;refine HTB.out.mono ?_;rintro e w1 hE;obtain ⟨cf,rfl,hT,hu⟩:=hE.ex;obtain ⟨A,c,ys,hcf,hA,hrow,hyl,hyc,hy1⟩:=hT.src;have HT:=Lib.hid (And.intro hT hu);have HY:=Lib.hid (And.intro hA (And.intro hrow (And.intro hyl (And.intro hyc hy1))));have hsz:=hu.size;subst hcf;clear hT hu hE HTB hA hrow hyl hyc hy1
 go_wp2_with (at_builtin;go_must (refine wpList_append_src rfl (.tmp 6) (.tmp 8) 22 rfl w.heap.size 122 ti _ 2 32 Tryz.underlying22 HI.out.1 HI.out.2.1 HI.out.2.2.1 HI.out.2.2.2 (by rfl) (by decide) (.slice none 0 0) 0 [] rfl (World.ownsRow_nil _ _ _ _) A M.tabs.length c ys rfl HY.out.1 HY.out.2.2.1 HY.out.2.2.2.1 HY.out.2.2.2.2 (by unfold maxLen;omega) (by omega) hsz ?_))
 intro v2 w2 hown hgr hat
 have hp:=(TLs.nil w1 w.heap.size Z).cat HT.out.1 (HZ.out w (Upd.refl _ _)) hgr (World.ownsRow_nil _ _ _ _) HY.out.2.1 (by rw [List.length_nil,Nat.zero_add,List.nil_append];exact hown);rw [List.nil_append] at hp;have hu2:Upd [] w1 w2:=hp.2;obtain ⟨A2,c2',ys2,hcf2,hA2,hrow2,hyl2,hyc2,hy12⟩:=hp.1.src;obtain ⟨A3,c3',ys3,hcf3,hA3,hrow3,hyl3,hyc3,hy13⟩:=(HV.out.keep0 (HT.out.2.trans hu2)).src;cases hcf3;subst hcf2;have HT2:=Lib.hid (And.intro hp.1 (HT.out.2.trans hu2));have HY2:=Lib.hid hrow2;have HY3:=Lib.hid (And.intro hA3 (And.intro hrow3 (And.intro hyl3 (And.intro hyc3 hy13))));have hsz2:=HT2.out.2.size;clear hown hgr hat hp hu2 HY HT hA2 hrow2 hyl2 hyc2 hy12 hA3 hrow3 hyl3 hyc3 hy13
 go_wp2_with (at_builtin;go_must (refine wpList_append_src rfl (.tmp 10) (.tmp 11) 22 rfl w.heap.size 122 ti _ 2 32 Tryz.underlying22 HI.out.1 HI.out.2.1 HI.out.2.2.1 HI.out.2.2.2 (by rfl) (by decide) _ M.tabs.length ys2 rfl HY2.out xa X.length xc ys3 rfl HY3.out.1 HY3.out.2.2.1 HY3.out.2.2.2.1 HY3.out.2.2.2.2 (by unfold maxLen;omega) (by omega) hsz2 ?_))
 intro v3 w3 hown hgr hat
 have hp:=HT2.out.1.cat (HV.out.keep0 HT2.out.2) (HZ.out w (Upd.refl _ _)) hgr HY2.out HY3.out.2.1 hown
 have hu3:Upd [] w w3:=HT2.out.2.then hp.2 fun k hk=>.inr (by
  have hk':(Value.slice A2 M.tabs.length c2').ownBlock=some k:=by simpa using hk
  exact (HY2.out.lt k hk').1)
 have HU3:=Lib.hid hu3;have d1:=hu3.cell0 c1;have hbd:=flatT_le6 (L:=M.tabs++X) HF.out.ol (by rw [List.length_append];omega)
 have HSZ:=Lib.hid (msize_spec m w.heap.size M p Z v3 (M.tabs++X) w3.drew ((HM.out.keep0 hu3).keep0 (Upd.refl _ _).drew) (HZ.out _ hu3.drew) HF.out (hp.1.keep0 (Upd.refl _ _).drew) (fun t ht=>by
  rcases List.mem_append.1 ht with ht | ht
  ·exact (HF.out.tn t ht).2
  ·exact HX.out t ht) (by rw [List.length_append];omega))
 obtain ⟨A4,c4',rfl,_⟩:=hp.1.form;have HFT:Hid (M.fits X=decide (2+(flatT (M.tabs++X) M.order).length<=M.c)):=rfl;have hcb:=HF.out.cb;generalize (flatT (M.tabs++X) M.order).length=S at *;generalize (M.tabs++X).length=TL at *;clear hown hgr hat hp hu3 HY2 HY3 HT2 c1;have hw2:IntKind.i64.wrap (2+(S:Int))=2+(S:Int):=IntWalk.i64_in _ (by omega);go_wp2_with fail
 go_region_held3 (fun w'=>w'.cell? ⟨m,1,none⟩=some (.int .i64 M.c)) (first | exact d1 | exact HS.out.cell0 d1) (first | (go_at_call 127;refine HSZ.out.mono ?_;rintro e w4 ⟨rfl,hu⟩;have HS:=Lib.hid hu.of_drew;clear hu))
 clear hw2;go_wp2_with fail;go_ret
 exact ⟨ret_bool (by
  rw [HFT.out,Bool.eq_iff_iff]
  simp only [decide_eq_true_eq]
  omega),HU3.out.trans HS.out⟩
def TV.isC (t:TV):Bool:=decide (t=constT t.n false)||decide (t=constT t.n true)
theorem isconst_spec (Z:List Nat) (c:Value) (t:TV) (w:World) (h:TIn w Z c t) (hZ:∀ k,k∈Z→k < w.heap.size) :
    Calls Tryz.prog 188 #[tabV t c] w fun e w'=>e=.returned (.bool t.isC)∧Upd [] w w':=by
  obtain ⟨fa,ca,hca,_⟩:=row_nil_len h.row;subst hca;have h16:=h.ok.n16
  have HX:Hid (∀ x:World,Upd [] w x→TIn x Z (.slice fa t.ws.length ca) t):=fun x u=>h.keep0 u
  have HZ:Hid (∀ x:World,Upd [] w x→∀ k,k∈Z→k < x.heap.size):=fun x u k hk=>Nat.lt_of_lt_of_le (hZ k hk) u.size
  have HU0:=Lib.hid (((Upd.refl [] w).alloc (.cells #[.int .i64 t.n,.slice fa t.ws.length ca] 122 (0,0))).drew);have hb:=boxT w (.int .i64 t.n) (.slice fa t.ws.length ca)
  have HSM:Hid (∀ (x:World) (d:Value) (u:TV),Upd [] w x→TIn x Z d u→Calls Tryz.prog 57 #[.agg #[.int .i64 t.n,.slice fa t.ws.length ca],tabV u d] x fun e w'=>e=.returned (.bool (decide (t=u)))∧Upd [] x w'):=fun x d u hx hd=>same_spec Z _ d t u x (h.keep0 hx) hd
  have HD:Hid (t.isC=(decide (t=constT t.n false) || decide (t=constT t.n true))):=rfl;unfold tabV;generalize t.ws.length=L at *;generalize hn:t.n=n at *;obtain ⟨b0,b1⟩:=hb
  have HK:Hid (∀ x:World,Upd [] (w.alloc (.cells #[.int .i64 n,.slice fa L ca] 122 (0,0))).drew x→x.cell? ⟨w.heap.size,0,none⟩=some (.int .i64 n)∧x.cell? ⟨w.heap.size,1,none⟩=some (.slice fa L ca)):=fun x u=>boxT_keep (Upd.of_drew u) ⟨b0,b1⟩
  clear h hZ hn
  by_cases e1:t=constT n false
  · have E1:Hid (decide (t=constT n false)=true):=decide_eq_true e1
    clear e1
    go_enter Tryz.func188,Tryz.ntmps188
    go_wp2_with fail;refine wp_region_until (fun w'=>w'.cell? ⟨w.heap.size,0,none⟩=some (.int .i64 n)∧w'.cell? ⟨w.heap.size,1,none⟩=some (.slice fa L ca)) (fun _=>True) [] (by kernel_rfl) ?_;have hS:=HK.out _ (Upd.refl [] _);refine wpAnyU_takeS (i:=0) (v:=?v1) rfl (by kernel_rfl) (by kernel_rfl) (by kernel_rfl) (by kernel_rfl) (fun _ _ _ h=>h) (Or.inl ⟨by rfl,?hy1⟩) hS (fun _=>trivial) ?rest1
    case hy1=>(intro x hSx; (try dsimp only at hSx); go_simp; try with_reducible rfl)
    (try simp only [Act.put,List.setIfInBounds_toArray])
    refine wpAnyU_takeS (i:=1) (v:=?v2) rfl (by kernel_rfl) (by kernel_rfl) (by kernel_rfl) (by kernel_rfl) (fun _ _ _ h=>h) (Or.inl ⟨by rfl,?hy2⟩) hS (fun _=>trivial) ?rest2
    case hy2=>(intro x hSx; (try dsimp only at hSx); go_simp; try with_reducible rfl)
    (try simp only [Act.put])
    refine wpAnyU_takeS (i:=2) (v:=?v3) rfl (by kernel_rfl) (by kernel_rfl) (by kernel_rfl) (by kernel_rfl) (fun _ _ _ h=>h) (Or.inl ⟨by rfl,?hy3⟩) hS (fun _=>trivial) ?rest3
    case hy3=>(intro x hSx; (try dsimp only at hSx); go_simp; try with_reducible rfl)
    (try simp only [Act.put])
    refine wpAnyU_ready (rs:=[3]) (by kernel_rfl) (by simp) ?_;refine AllReadyU.cons rfl (fun K hK=>?_) ?_
    rotate_left
    exact AllReadyU.nil
    go_simp
    (go_at_call 98; refine (tconst_spec n false _ h16).mono ?_; rintro e w3 hE; obtain ⟨cf,rfl,hT,hu⟩:=hE.ex; have HF:=Lib.hid (And.intro hT hu); clear hE hT hu)
    go_wp2_with fail;refine hK.out _ _ ⟨HK.out _ HF.out.2,fun _=>trivial⟩ (fun hHeld=>?_);clear hK K hS;have hS:=hHeld.1;clear hHeld
    (try simp only [Act.put,List.setIfInBounds_toArray,List.set_cons_zero,List.set_cons_succ])
    refine wpAnyU_ready (rs:=[4]) (by kernel_rfl) (by simp) ?_;refine AllReadyU.cons rfl (fun K hK=>?_) ?_
    rotate_left
    exact AllReadyU.nil
    go_simp
    (go_at_call 57; refine (HSM.out _ _ _ (HU0.out.trans HF.out.2) ((HF.out.1.base HU0.out.size).tin (HZ.out w (Upd.refl _ _)))).mono ?_; rintro e w5 ⟨rfl,hu⟩; rw [E1.out]; have HS1:=Lib.hid hu; clear hu)
    go_wp2_with fail;refine hK.out _ _ ⟨HK.out _ (HF.out.2.trans HS1.out),fun _=>trivial⟩ (fun hHeld=>?_);clear hK K hS;have hS:=hHeld.1;clear hHeld
    (try simp only [Act.put,List.setIfInBounds_toArray,List.set_cons_zero,List.set_cons_succ])
    refine wpAnyU_takeS (i:=5) (v:=?v4) rfl (by kernel_rfl) (by kernel_rfl) (by kernel_rfl) (by kernel_rfl) (fun _ _ _ h=>h) (Or.inl ⟨by rfl,?hy4⟩) hS (fun _=>trivial) ?rest4
    case hy4=>(intro x hSx; (try dsimp only at hSx); go_simp; try with_reducible rfl)
    (try simp only [Act.put,List.setIfInBounds_toArray])
    refine wpAnyU_takeS (i:=6) (v:=undef) rfl (by kernel_rfl) (by kernel_rfl) (by kernel_rfl) (by kernel_rfl) (fun _ _ _ h=>h) (Or.inr ⟨by rfl,rfl⟩) hS (fun _=>trivial) ?rest5
    (try simp only [Act.put])
    refine wpAnyU_takeS (i:=7) (v:=undef) rfl (by kernel_rfl) (by kernel_rfl) (by kernel_rfl) (by kernel_rfl) (fun _ _ _ h=>h) (Or.inr ⟨by rfl,rfl⟩) hS (fun _=>trivial) ?rest6
    (try simp only [Act.put])
    refine wpAnyU_takeS (i:=8) (v:=undef) rfl (by kernel_rfl) (by kernel_rfl) (by kernel_rfl) (by kernel_rfl) (fun _ _ _ h=>h) (Or.inr ⟨by rfl,rfl⟩) hS (fun _=>trivial) ?rest7
    (try simp only [Act.put])
    refine wpAnyU_takeS (i:=9) (v:=undef) rfl (by kernel_rfl) (by kernel_rfl) (by kernel_rfl) (by kernel_rfl) (fun _ _ _ h=>h) (Or.inr ⟨by rfl,rfl⟩) hS (fun _=>trivial) ?rest8
    (try simp only [Act.put])
    refine wpAnyU_takeS (i:=10) (v:=undef) rfl (by kernel_rfl) (by kernel_rfl) (by kernel_rfl) (by kernel_rfl) (fun _ _ _ h=>h) (Or.inr ⟨by rfl,rfl⟩) hS (fun _=>trivial) ?rest9
    (try simp only [Act.put])
    refine wpAnyU_ready (rs:=[11]) (by kernel_rfl) (by simp) ?_;refine AllReadyU.cons rfl (fun K hK=>?_) ?_
    rotate_left
    exact AllReadyU.nil
    go_simp
    refine hK.out _ _ ⟨hS,fun _=>trivial⟩ (fun hHeld=>?_);clear hK K hHeld
    (try simp only [Act.put,List.setIfInBounds_toArray,List.set_cons_zero,List.set_cons_succ])
    refine wpAnyU_ready (rs:=[12]) (by kernel_rfl) (by simp) ?_;refine AllReadyU.cons rfl (fun K hK=>?_) ?_
    rotate_left
    exact AllReadyU.nil
    go_simp
    refine hK.out _ _ ⟨hS,fun _=>trivial⟩ (fun hHeld=>?_);clear hK K hHeld
    (try simp only [Act.put,List.setIfInBounds_toArray,List.set_cons_zero,List.set_cons_succ])
    refine wpAnyU_done (by kernel_rfl) ?_ _
    all_goals (
      go_wp2_with fail;go_ret
      exact ⟨by rw [HD.out,E1.out]; rfl,(HU0.out.trans HF.out.2).trans HS1.out⟩)
  · have E1:Hid (decide (t=constT n false)=false):=decide_eq_false e1
    clear e1
    go_enter Tryz.func188,Tryz.ntmps188
    go_wp2_with fail
    first | (go_region_held3 (fun w' => w'.cell? ⟨w.heap.size, 0, none⟩ = some (.int .i64 n) ∧ w'.cell? ⟨w.heap.size, 1, none⟩ = some (.slice fa L ca)) (first | exact ⟨b0, b1⟩ | exact HK.out _ HF.out.2 | exact HK.out _ (HF.out.2.trans HS1.out) | exact HK.out _ ((HF.out.2.trans HS1.out).trans HT.out.2) | exact HK.out _ (((HF.out.2.trans HS1.out).trans HT.out.2).trans HS2.out)) (first | (go_at_call_of 98 (Value.bool false); refine (tconst_spec n false _ h16).mono ?_; rintro e w3 hE; obtain ⟨cf, rfl, hT, hu⟩ := hE.ex; have HF := Lib.hid (And.intro hT hu); clear hE hT hu) | (go_at_call_of 98 (Value.bool true); refine (tconst_spec n true _ h16).mono ?_; rintro e w4 hE; obtain ⟨ct, rfl, hT, hu⟩ := hE.ex; have HT := Lib.hid (And.intro hT hu); clear hE hT hu) | (go_at_call 57; refine (HSM.out _ _ _ ((HU0.out.trans (HF.out.2.trans HS1.out)).trans HT.out.2) ((HT.out.1.base ((HU0.out.trans HF.out.2).trans HS1.out).size).tin (HZ.out w (Upd.refl _ _)))).mono ?_; rintro e w6 ⟨rfl, hu⟩; have HS2 := Lib.hid hu; clear hu) | (go_at_call 57; refine (HSM.out _ _ _ (HU0.out.trans HF.out.2) ((HF.out.1.base HU0.out.size).tin (HZ.out w (Upd.refl _ _)))).mono ?_; rintro e w5 ⟨rfl, hu⟩; rw [E1.out]; have HS1 := Lib.hid hu; clear hu))) | fail "held3"
    go_wp2_with fail;go_ret;exact ⟨by rw [HD.out,E1.out]; rfl,(HU0.out.trans ((HF.out.2.trans HS1.out).trans HT.out.2)).trans HS2.out⟩
theorem MV.Fit.lev_len {M:MV} (h:M.Fit):M.lev.length<=8:=by unfold MV.lev;rw [levT_len];exact h.ol
def holdL:List (TV × Nat)->TV->Nat
 | [],_=>0
 | h::H,t=>if h.1=t then h.2 else holdL H t
def MV.holds (M:MV) (t:TV):Nat:=holdL M.held t
theorem holdL_at:∀ {H:List (TV × Nat)} {t:TV} {i:Nat} {u:TV × Nat},H[i]?=some u->u.1=t->(∀ h,h∈H.take i->h.1≠t)->holdL H t=u.2
 | [],_,_,_,h,_,_=>by simp at h
 | a::H,t,0,u,h,e,_=>by simp at h;subst h;simp [holdL,e]
 | a::H,t,i+1,u,h,e,hno=>by
  have h1:a.1≠t:=hno a (by simp)
  simp only [holdL,if_neg h1]
  exact holdL_at (i:=i) (by simpa using h) e fun b hb=>hno b (by simp [hb])
theorem holdL_no:∀ {H:List (TV × Nat)} {t:TV},(∀ h,h∈H->h.1≠t)->holdL H t=0
 | [],_,_=>rfl
 | a::H,t,hno=>by
  simp only [holdL,if_neg (hno a (by simp))]
  exact holdL_no fun b hb=>hno b (by simp [hb])
theorem holds_spec (m:Nat) (M:MV) (p:MPtr) (Z:List Nat) (c:Value) (t:TV) (w:World) (h:ModIn w m M p Z) (ht:TIn w Z c t) (hl:M.held.length<=4194304) :
  Calls Tryz.prog 122 #[.pointer (some ⟨m,0,none⟩),tabV t c] w fun e w'=>e=.returned (.int .i64 (M.holds t:Nat))/\Upd [] w w':=by
 obtain ⟨ta,tc,rfl,_⟩:=row_nil_len ht.row;obtain ⟨fa,fc,hfv,hfa⟩:=h.hs.form;obtain ⟨_,_,_,c3,_⟩:=h.cells;rw [hfv] at c3;have hs:=h.hs;rw [hfv] at hs;have HL:=Lib.hid hs;have HT:=Lib.hid ht;have HU0:=Lib.hid ((Upd.refl [] w).alloc (.cells #[.int .i64 t.n,.slice ta t.ws.length tc] 122 (0,0)));have hb:=boxT w (.int .i64 t.n) (.slice ta t.ws.length tc)
 have HSM:Hid (∀ (x:World) (d:Value) (u:TV),Upd [] w x->TIn x Z d u->Calls Tryz.prog 57 #[tabV u d,tabV t (.slice ta t.ws.length tc)] x fun e w'=>e=.returned (.bool (decide (u=t)))/\Upd [] x w'):=fun x d u hx hd=>same_spec Z d _ u t x hd (ht.keep0 hx)
 have HD:Hid (M.holds t=holdL M.held t):=rfl;have d3:=HU0.out.cell0 c3;unfold tabV at HSM ⊢;generalize t.ws.length=W at *;generalize t.n=n at *;obtain ⟨b0,b1⟩:=hb
 have HB:Hid (∀ x:World,Upd [] (w.alloc (.cells #[.int .i64 n,.slice ta W tc] 122 (0,0))) x->x.cell? ⟨w.heap.size,0,none⟩=some (.int .i64 n)/\x.cell? ⟨w.heap.size,1,none⟩=some (.slice ta W tc)):=fun x u=>boxT_keep u ⟨b0,b1⟩
 generalize M.held=H at *;clear h hfv hs ht b0 b1 c3
 go_enter Tryz.func122,Tryz.ntmps122
 go_wp2_with fail
 go_loopg [12] H.length (fun g s12 wr=>∃ i:Nat,H.length-i=g/\i<=H.length/\s12=.int .i64 i/\(∀ h,h∈H.take i->h.1≠t)/\Upd [] (w.alloc (.cells #[.int .i64 n,.slice ta W tc] 122 (0,0))) wr)
 case atStart=>exact ⟨0,by omega,by omega,rfl,by simp,Upd.refl _ _⟩
 case round =>
  obtain ⟨i,rfl,hi,rfl,hno,hU⟩:=hrel
  by_cases hlt:i<H.length
  ·obtain ⟨u,hu⟩ : ∃ u,H[i]?=some u:=⟨_,List.getElem?_eq_getElem hlt⟩
   obtain ⟨ga,rfl⟩:=hfa (by omega);have hUw:=HU0.out.trans hU;obtain ⟨cu,x0,x1,x2,htu⟩:=(HL.out.keep hUw (by simp) (by simp)).at_ hu;obtain ⟨ua,uc,hcu,_⟩:=row_nil_len htu.row;subst hcu
   have hil:(i:Int)<(H.length:Int):=by omega
   obtain ⟨z0,z1,z2⟩:=boxH wr (.int .i64 u.1.n) (.slice ua u.1.ws.length uc) (.int .i64 u.2);have hUB:=(Upd.refl [] wr).alloc (.cells #[.int .i64 u.1.n,.slice ua u.1.ws.length uc,.int .i64 u.2] 264 (0,0));obtain ⟨y0,y1⟩:=HB.out _ (hU.trans hUB);have HS1:=Lib.hid (HSM.out _ _ u.1 (hUw.trans hUB) (htu.keep0 hUB));have HN:=Lib.hid (And.intro hu (And.intro hno (hUB)));have HUr:=Lib.hid hU;have HZB:Hid ((wr.alloc (.cells #[.int .i64 u.1.n,.slice ua u.1.ws.length uc,.int .i64 u.2] 264 (0,0))).cell? ⟨wr.heap.size,2,none⟩=some (.int .i64 u.2)):=z2;obtain ⟨q,k⟩:=u
   simp only at *
   generalize q.ws.length=UW at *;generalize q.n=un at *;clear hu htu hno hU hUw hUB;go_wp2_with fail;refine HS1.out.mono ?_;rintro e w5 ⟨rfl,hu5⟩;have k2:=hu5.cell0 HZB.out;have HU5:=Lib.hid (HUr.out.trans (HN.out.2.2.trans hu5));clear hu5 HS1 x0 x1 x2 y0 y1 z0 z1 z2 HZB
   by_cases he:q=t
   ·rw [decide_eq_true he]
    have HE:Hid (M.holds t=k):=by show _=k;rw [HD.out];exact holdL_at HN.out.1 he HN.out.2.1
    clear he;go_wp2_with fail;go_ret;exact ⟨ret_int (congrArg _ HE.out.symm),HU0.out.trans HU5.out⟩
   ·rw [decide_eq_false he]
    have HE:Hid (∀ h,h∈H.take (i+1)->h.1≠t):=fun h hh=>by
     rw [List.take_add_one,HN.out.1] at hh
     rcases List.mem_append.1 hh with hh | hh
     ·exact HN.out.2.1 h hh
     ·simp at hh;subst hh;exact he
    clear he k2;go_wp2_with fail
    go_roundg (H.length-(i+1))
    case measure=>omega
    case rel=>exact ⟨i+1,rfl,by omega,by simp,HE.out,HU5.out⟩
  ·obtain rfl:i=H.length:=by omega
   have hil:¬ ((H.length:Int)<(H.length:Int)):=by omega
   have HE:Hid (M.holds t=0/\Upd [] w wr):=⟨by rw [HD.out];exact holdL_no (by rw [List.take_length] at hno;exact hno),HU0.out.trans hU⟩;clear hno hU;go_wp2_with fail;go_ret;exact ⟨by rw [HE.out.1];rfl,HE.out.2⟩
theorem Tryz.infoIntM:(Tryz.prog.info? 3).map (fun i=>(i.zero,i.size,i.bytes))=some (some (.int .i64 0),1,8):=by kernel_rfl
def turnL (o:List Nat) (l:Nat):List Nat:=(o.set l (o.getD (l+1) 0)).set (l+1) (o.getD l 0)
theorem turnL_len (o:List Nat) (l:Nat):(turnL o l).length=o.length:=by simp [turnL]
theorem mem_turnL {o:List Nat} {l x:Nat} (hl:l+1<o.length) (h:x∈turnL o l):x∈o:=by
 unfold turnL at h
 have m0:o.getD l 0∈o:=by rw [List.getD_eq_getElem?_getD,List.getElem?_eq_getElem (by omega)];exact List.getElem_mem _
 have m1:o.getD (l+1) 0∈o:=by rw [List.getD_eq_getElem?_getD,List.getElem?_eq_getElem (by omega)];exact List.getElem_mem _
 rcases mem_set_of h with h | h
 ·rcases mem_set_of h with h | h
  ·exact h
  ·rw [h];exact m1
 ·rw [h];exact m0
structure TurnQ (o:List Nat) (l:Nat) (w:World) (e:Ending) (w':World):Prop where
 ex:∃ g c:Nat,e=.returned (.slice (some ⟨g,0,none⟩) o.length c)/\w'.ownsRow w.heap.size 3 1 (.slice (some ⟨g,0,none⟩) o.length c) o.length (flatN (turnL o l))/\Upd [] w w'
theorem flatN_setn (l:List Nat) (r n:Nat):(flatN l).set r (.int .i64 n)=flatN (l.set r n):=by simp [flatN,List.map_set]
theorem rowI_get {w:World} {base g n' c n:Nat} {l:List Nat} (h:w.ownsRow base 3 1 (.slice (some ⟨g,0,none⟩) n' c) n (flatN l)) {j:Nat} (hj:j<l.length):w.cell? ⟨g,j,none⟩=some (.int .i64 (l.getD j 0:Nat)):=by
 refine row_cell h ?_
 rw [flatN,List.getElem?_map,List.getElem?_eq_getElem hj,List.getD_eq_getElem?_getD,List.getElem?_eq_getElem hj];rfl
theorem turn_rows {w:World} {base g c n:Nat} {o:List Nat} {l:Nat} (h:w.ownsRow base 3 1 (.slice (some ⟨g,0,none⟩) n c) n (flatN o)) (hl:l+1<n) :
  ((w.setCell ⟨g,l,none⟩ (.int .i64 (o.getD (l+1) 0:Nat))).setCell ⟨g,l+1,none⟩ (.int .i64 (o.getD l 0:Nat))).ownsRow base 3 1 (.slice (some ⟨g,0,none⟩) n c) n (flatN (turnL o l)):=by
 have h1:=row_set h (j:=l) (by omega) (.int .i64 (o.getD (l+1) 0:Nat));rw [flatN_setn] at h1;have h2:=row_set h1 (j:=l+1) (by omega) (.int .i64 (o.getD l 0:Nat));rw [flatN_setn] at h2;exact h2
theorem turned_spec (b0:Nat) (v:Value) (o:List Nat) (l:Nat) (w:World) (h:w.ownsRow b0 3 1 v o.length (flatN o)) (hl:l+1<o.length) (ho:o.length<=64) :
  Calls Tryz.prog 141 #[v,.int .i64 l] w fun e w'=>TurnQ o l w e w':=by
 obtain ⟨ti,hi2,hz2,hs2,hb2⟩:=info_parts Tryz.infoIntM;have HI:=Lib.hid (And.intro hi2 (And.intro hz2 (And.intro hs2 hb2)))
 obtain ⟨g0,c0,rfl⟩ : ∃ g0 c0,v=.slice (some ⟨g0,0,none⟩) o.length c0:=by
  obtain ⟨a,c,hv,_⟩:=row_nil_len h;rw [hv] at h;obtain ⟨g,rfl⟩:=row_some h (by omega);exact ⟨g,c,hv⟩
 have HW:=Lib.hid h
 have HL1:Hid (∀ u,u∈flatN o->u.oneCell'=true):=by intro u hu;simp [flatN] at hu;obtain ⟨x,_,rfl⟩:=hu;rfl
 have HLEN:Hid ((flatN o).length=o.length*1):=by show _=_;simp [flatN]
 clear h hi2 hz2 hs2 hb2
 go_enter Tryz.func141,Tryz.ntmps141
 go_wp2_with (at_builtin;go_must (refine wpList_append_lies _ rfl (.tmp 6) (.tmp 7) 23 rfl w.heap.size 3 ti _ 1 8 Tryz.underlying23 HI.out.1 HI.out.2.1 HI.out.2.2.1 HI.out.2.2.2 (by rfl) (by decide) _ 0 [] rfl (World.ownsRow_nil _ _ _ _) ⟨g0,0,none⟩ o.length c0 (flatN o) rfl HLEN.out ?c1 HL1.out (by omega) (by unfold maxLen;omega) (by omega) (by omega) _ rfl ?_))
 case c1=>exact fun j u hj=>HW.out.cells (g:=g0) rfl j u hj
 intro g5 cap w5 hown hgr hat hlt5
 have hup:Upd [] w w5:=(Upd.refl [] w).grown hgr (by simp [Value.ownBlock]);have e0:=rowI_get hown (j:=l) (by omega);have e1:=rowI_get hown (j:=l+1) (by omega);have f0:=row_frozen hown l;have f1:=row_frozen hown (l+1);have hE:=turn_rows hown hl;have HE:=Lib.hid (And.intro hE (And.intro hup (hown.lt g5 rfl).1));generalize o.getD l 0=X at *;generalize o.getD (l+1) 0=Y at *
 have hb0:(l:Int)<(o.length:Int):=by omega
 have hb1:(l:Int)+1<(o.length:Int):=by omega
 have hw1:IntKind.i64.wrap ((l:Int)+1)=(l:Int)+1:=IntWalk.i64_in _ (by omega)
 have hn1:((l:Int)+1).toNat=l+1:=by omega
 have hp1:(0:Int)<=(l:Int)+1:=by omega
 clear hown hgr hat hlt5 hup hE;go_wp2_with fail
 go_region
 go_wp2_with fail;go_ret;exact ⟨g5,cap,rfl,HE.out.1,((HE.out.2.1.setCell (p:=⟨g5,l,none⟩) (.inr HE.out.2.2) _).setCell (p:=⟨g5,l+1,none⟩) (.inr HE.out.2.2) _).drew⟩
def MV.U (M:MV) (l:Nat):Nat:=(unlikeT (M.lev.flatten++(levT (unlikeT M.tabs) (turnL M.order l)).flatten)).length
theorem MV.Fit.tl {M:MV} (h:M.Fit):M.tabs.length<=65536:=by unfold MV.tabs;rw [List.length_map];exact h.hl
theorem MV.Fit.lev_leS {M:MV} (h:M.Fit):M.lev.flatten.length<=135168000 :=
 levF_lenS h.ol (by have:=unlikeT_len M.tabs;have:=h.tl;omega)
theorem MV.Fit.turn_leS {M:MV} (h:M.Fit) (l:Nat):(levT (unlikeT M.tabs) (turnL M.order l)).flatten.length<=135168000 :=
 levF_lenS (by rw [turnL_len];exact h.ol) (by have:=unlikeT_len M.tabs;have:=h.tl;omega)
theorem flat_take_snoc {L:List (List TV)} {i:Nat} {l:List TV} (h:L[i]?=some l):(L.take (i+1)).flatten=(L.take i).flatten++l:=by
 rw [List.take_add_one,h];simp [List.flatten_append]
theorem TLs.far {w w':World} {n0:Nat} {Z:List Nat} {v:Value} {L:List TV} (h:TLs w n0 Z v L) {k0:Option Nat} (u:Upd k0.toList w w') (hn:∀ k,k0=some k->k<n0) (ht:∀ k,k0=some k->∃ cs fr,w.heap[k]?=some (.cells cs 122 fr)):TLs w' n0 Z v L:=by
 obtain ⟨cs,h1,h2,h3⟩:=h.ex;refine ⟨⟨cs,h1,row_keep h2 fun k hk=>u.block k (h2.lt k hk).2 fun hm=>?_,fun i t c hi hc=>?_⟩,h.fr⟩
 ·have h4:=hn k (Option.mem_toList.1 hm)
  have h5:=(h2.lt k hk).1;omega
 ·have h6:=h3 i t c hi hc
  refine ⟨h6.ok,row_keep h6.row fun k hk=>u.block k (h6.row.lt k hk).2 fun hm=>?_,h6.fr⟩;obtain ⟨c1,f1,e1⟩:=ht k (Option.mem_toList.1 hm);obtain ⟨c2,f2,e2⟩:=row_type h6.row hk;rw [e1] at e2
  injection e2 with e2
  injection e2 with _ e2 _
  exact absurd e2 (by decide)
theorem TLL.far {w w':World} {n0:Nat} {Z:List Nat} {v:Value} {L:List (List TV)} (h:TLL w n0 Z v L) {k0:Option Nat} (u:Upd k0.toList w w') (hn:∀ k,k0=some k->k<n0) (ht:∀ k,k0=some k->∃ cs fr,w.heap[k]?=some (.cells cs 122 fr)):TLL w' n0 Z v L:=by
 obtain ⟨cs,h1,h2,h3⟩:=h.ex;refine ⟨⟨cs,h1,row_keep h2 fun k hk=>u.block k (h2.lt k hk).2 fun hm=>?_,fun i t c hi hc=>(h3 i t c hi hc).far u hn ht⟩,h.fr⟩;have h4:=hn k (Option.mem_toList.1 hm);have h5:=(h2.lt k hk).1;omega
theorem u_spec (m:Nat) (M:MV) (p:MPtr) (Z:List Nat) (l:Nat) (w:World) (h:ModIn w m M p Z) (hZ:∀ k,k∈Z->k<w.heap.size) (hf:M.Fit) (hl:l+1<M.order.length) :
  Calls Tryz.prog 72 #[.pointer (some ⟨m,0,none⟩),.int .i64 l] w fun e w'=>e=.returned (.int .i64 (M.U l:Nat))/\Upd [] w w':=by
 obtain ⟨ti,hi2,hz2,hs2,hb2⟩:=info_parts Tryz.infoTable;have HI:=Lib.hid (And.intro hi2 (And.intro hz2 (And.intro hs2 hb2)));obtain ⟨oa,oc,hov,_⟩:=row_nil_len h.os;obtain ⟨_,_,c2,_,_⟩:=h.cells;rw [hov] at c2;have hos:=h.os;rw [hov] at hos;have HOS:=Lib.hid hos;have HM:=Lib.hid h;have HF:=Lib.hid hf
 have HZ:Hid (∀ x:World,Upd [] w x->∀ k,k∈Z->k<x.heap.size):=fun x u k hk=>Nat.lt_of_lt_of_le (hZ k hk) u.size
 have HLV:=Lib.hid (mlevels_spec m M p Z w h hZ hf);have hc1:=hf.lev_leS;have hc2:=hf.turn_leS l;have hk1:=hf.lev_len
 have hk2:(levT (unlikeT M.tabs) (turnL M.order l)).length<=8:=by rw [levT_len,turnL_len];exact hf.ol
 have htl:=hf.tl;have hol:=hf.ol;have HD:Hid (M.U l=(unlikeT (M.lev.flatten++(levT (unlikeT M.tabs) (turnL M.order l)).flatten)).length):=rfl;generalize M.lev=LV at *;obtain ⟨LV2,hLV2⟩ : ∃ L,levT (unlikeT M.tabs) (turnL M.order l)=L:=⟨_,rfl⟩;have HE2:=Lib.hid hLV2;rw [hLV2] at hc2 HD hk2;clear h hZ hf hov hos hi2 hz2 hs2 hb2 hLV2
 go_enter Tryz.func72,Tryz.ntmps72
 go_wp2_with fail;refine HLV.out.mono ?_;rintro e w1 hE;obtain ⟨lv,rfl,hL,hu1⟩:=hE.ex;obtain ⟨aa,ac,hav,hag⟩:=hL.form;subst hav;have HL:=Lib.hid (And.intro hL hu1);have HZ1:=Lib.hid (HZ.out w1 hu1);clear hL hu1 hE HLV;go_wp2_with fail
 go_loopg [5,13] LV.length (fun g s5 s13 wr=>∃ i:Nat,LV.length-i=g/\i<=LV.length/\s13=.int .i64 i/\TLs wr w1.heap.size Z s5 (LV.take i).flatten/\Upd [] w1 wr)
 case atStart=>exact ⟨0,by omega,by omega,rfl,by simpa using TLs.nil w1 w1.heap.size Z,Upd.refl _ _⟩
 case round =>
  obtain ⟨i,rfl,hi,rfl,hT,hU⟩:=hrel
  by_cases hlt:i<LV.length
  ·obtain ⟨c,hc⟩ : ∃ c,LV[i]?=some c:=⟨_,List.getElem?_eq_getElem hlt⟩
   obtain ⟨ga,rfl⟩:=hag (by omega);obtain ⟨cl,x0,htl⟩:=(HL.out.1.keep0 hU).at_ hc;obtain ⟨A,cc,ys,hcf,hA,hrow,hyl,hyc,hy1⟩:=htl.src;subst hcf;obtain ⟨xs,hrx⟩:=hT.row;have hb3:=Nat.le_trans (flat_take_le LV (i+1)) hc1;have HS:=Lib.hid (flat_take_snoc hc);rw [HS.out,List.length_append] at hb3;have HP:=Lib.hid (And.intro hT (And.intro htl (And.intro hU hrx)));have HY:=Lib.hid (And.intro hA (And.intro hrow (And.intro hyl (And.intro hyc hy1))));have hsz:=hU.size
   have hil:(i:Int)<(LV.length:Int):=by omega
   generalize (LV.take i).flatten=CU at *;generalize hcn:c.length=cn at *;have HCN:=Lib.hid hcn;clear hT hU hc htl hrx hA hrow hyl hyc hy1 hcn
   go_wp2_with (at_builtin;go_must (refine wpList_append_src rfl (.tmp 17) (.tmp 18) 22 rfl w1.heap.size 122 ti _ 2 32 Tryz.underlying22 HI.out.1 HI.out.2.1 HI.out.2.2.1 HI.out.2.2.2 (by rfl) (by decide) _ CU.length xs rfl HP.out.2.2.2 A cn cc ys rfl HY.out.1 HY.out.2.2.1 HY.out.2.2.2.1 HY.out.2.2.2.2 (by unfold maxLen;omega) (by omega) hsz ?_))
   intro v5 w5 hown hgr hat
   have HE:Hid (TLs w5 w1.heap.size Z v5 (CU++c)/\Upd [] w1 w5):=by
    have hp:=HP.out.1.cat HP.out.2.1 HZ1.out hgr HP.out.2.2.2 (by rw [HCN.out];exact HY.out.2.1) (by rw [HCN.out];exact hown);refine ⟨hp.1,HP.out.2.2.1.then hp.2 fun k hk=>.inr ?_⟩;have hk':=Option.mem_toList.1 hk;exact (HP.out.2.2.2.lt k hk').1
   clear hown hgr hat;go_wp2_with fail
   go_roundg (LV.length-(i+1))
   case measure=>omega
   case rel=>exact ⟨i+1,rfl,by omega,by simp,by rw [HS.out];exact HE.out.1,HE.out.2⟩
  ·obtain rfl:i=LV.length:=by omega
   have hil:¬ ((LV.length:Int)<(LV.length:Int)):=by omega
   rw [List.take_length] at hT;have HT1:=Lib.hid (And.intro hT (And.intro hU (HL.out.2.trans hU)));have d2:=HT1.out.2.2.cell0 c2;have HTB:=Lib.hid (tables_spec m M p Z wr.drew ((HM.out.keep0 HT1.out.2.2).keep0 (Upd.refl _ _).drew) (HZ.out _ HT1.out.2.2.drew) (by have:=HF.out.hl;omega));clear hT hU;go_wp2_with fail
   go_region_held3 (fun w'=>w'.cell? ⟨m,2,none⟩=some (.slice oa M.order.length oc)) (first | exact d2 | exact HT.out.2.cell0 d2 | exact (HT.out.2.trans HN.out.2).cell0 d2 | exact ((HT.out.2.trans HN.out.2).trans HS.out.2).cell0 d2) (first | (go_at_call 149;refine HTB.out.mono ?_;rintro e w3 hE;obtain ⟨cf,rfl,hT,hu⟩:=hE.ex;have HT:=Lib.hid (And.intro hT hu.of_drew);clear hE hT hu) | (go_at_call 141;refine (turned_spec 0 _ M.order l _ (row_keep HOS.out fun k hk=>(HT1.out.2.2.trans HT.out.2).block k (HOS.out.lt k hk).2 (by simp)) hl (by omega)).mono ?_;rintro e w4 hE;obtain ⟨tg,tc,rfl,hN,hu⟩:=hE.ex;have HN:=Lib.hid (And.intro hN hu);clear hE hN hu) | (go_at_call 148;refine (levels_spec _ _ Z _ _ M.tabs (turnL M.order l) M.n _ (HT.out.1.keep0 HN.out.2) (HZ.out _ ((HT1.out.2.2.trans HT.out.2).trans HN.out.2)) (by omega) (fun t ht=>(HF.out.tn t ht).2) HF.out.n6 (by rw [turnL_len];exact HN.out.1) (by rw [turnL_len];exact hol) (fun x hx=>HF.out.on x (mem_turnL hl hx))).mono ?_;rintro e w5 hE;obtain ⟨cf2,rfl,hS,hu⟩:=hE.ex;rw [HE2.out] at hS;obtain ⟨ba,bc,hbv,hbg⟩:=hS.form;subst hbv;have HS:=Lib.hid (And.intro hS hu);clear hE hS hu))
   obtain ⟨xs1,hrow1⟩:=HT1.out.1.row;have HK0:=Lib.hid (And.intro (fun k (hk:u5.ownBlock=some k)=>(hrow1.lt k hk)) (And.intro (HT.out.2.trans HN.out.2).size (fun k (hk:u5.ownBlock=some k)=>row_type (row_keep hrow1 fun k hk=>((HT.out.2.trans HN.out.2).trans HS.out.2).block k (hrow1.lt k hk).2 (by simp)) hk)));have HW:=Lib.hid (And.intro (HT1.out.1.keep0 ((HT.out.2.trans HN.out.2).trans HS.out.2)) (And.intro HS.out.1 (((HT1.out.2.2.trans HT.out.2).trans HN.out.2).trans HS.out.2)));have hsw:=HW.out.2.2.size;have hs1:=HL.out.2.size;have hs2:=Nat.le_trans HT1.out.2.1.size ((HT.out.2.trans HN.out.2).trans HS.out.2).size;obtain ⟨SV,rfl⟩ : ∃ SV:Value,SV=u5:=⟨_,rfl⟩;clear HT1 HT HN HS HTB d2;go_wp2_with fail
   go_loopg [5,31] LV2.length (fun g s5 s31 wr=>∃ i:Nat,LV2.length-i=g/\i<=LV2.length/\s31=.int .i64 i/\TLs wr w1.heap.size Z s5 (LV.flatten++(LV2.take i).flatten)/\Upd SV.ownBlock.toList w5 wr/\(∀ k,s5.ownBlock=some k->SV.ownBlock=some k\/w5.heap.size<=k))
   case atStart=>exact ⟨0,by omega,by omega,rfl,by simpa using HW.out.1,Upd.refl _ _,fun k hk=>.inl hk⟩
   case round =>
    obtain ⟨i,rfl,hi,rfl,hT,hU,hB⟩:=hrel
    by_cases hlt:i<LV2.length
    ·obtain ⟨c,hc⟩ : ∃ c,LV2[i]?=some c:=⟨_,List.getElem?_eq_getElem hlt⟩
     obtain ⟨ga,rfl⟩:=hbg (by omega);obtain ⟨cl,x0,htl⟩:=(HW.out.2.1.far hU (fun k hk=>by have:=HK0.out.1 k hk;have:=HK0.out.2.1;omega) HK0.out.2.2).at_ hc;obtain ⟨A,cc,ys,hcf,hA,hrow,hyl,hyc,hy1⟩:=htl.src;subst hcf;obtain ⟨xs,hrx⟩:=hT.row;have hb3:=Nat.le_trans (flat_take_le LV2 (i+1)) hc2;have HS:=Lib.hid (flat_take_snoc hc);rw [HS.out,List.length_append] at hb3;have HP:=Lib.hid (And.intro hT (And.intro htl (And.intro hU (And.intro hrx hB))));have HY:=Lib.hid (And.intro hA (And.intro hrow (And.intro hyl (And.intro hyc hy1))));have hsz:=hU.size
     have hil:(i:Int)<(LV2.length:Int):=by omega
     have hb4:(LV.flatten++(LV2.take i).flatten).length+c.length<=270336000:=by rw [List.length_append];omega
     have HAS:Hid (LV.flatten++(LV2.take (i+1)).flatten=LV.flatten++(LV2.take i).flatten++c):=by
      show _=_
      rw [HS.out,List.append_assoc]
     generalize LV.flatten++(LV2.take i).flatten=CU at *;generalize hcn:c.length=cn at *;have HCN:=Lib.hid hcn;clear hT hU hc htl hrx hA hrow hyl hyc hy1 hcn hB hb3
     go_wp2_with (at_builtin;go_must (refine wpList_append_src rfl (.tmp 35) (.tmp 36) 22 rfl w1.heap.size 122 ti _ 2 32 Tryz.underlying22 HI.out.1 HI.out.2.1 HI.out.2.2.1 HI.out.2.2.2 (by rfl) (by decide) _ CU.length xs rfl HP.out.2.2.2.1 A cn cc ys rfl HY.out.1 HY.out.2.2.1 HY.out.2.2.2.1 HY.out.2.2.2.2 (by unfold maxLen;omega) (by omega) (by omega) ?_))
     intro v6 w6 hown hgr hat
     have HE:Hid (TLs w6 w1.heap.size Z v6 (CU++c)/\Upd SV.ownBlock.toList w5 w6/\(∀ k,v6.ownBlock=some k->SV.ownBlock=some k\/w5.heap.size<=k)):=by
      have hp:=HP.out.1.cat HP.out.2.1 HZ1.out hgr HP.out.2.2.2.1 (by rw [HCN.out];exact HY.out.2.1) (by rw [HCN.out];exact hown);refine ⟨hp.1,HP.out.2.2.1.then hp.2 fun k hk=>?_,fun k hk=>?_⟩
      ·rcases HP.out.2.2.2.2 k (Option.mem_toList.1 hk) with h | h
       ·exact .inl (Option.mem_toList.2 h)
       ·exact .inr h
      ·rcases hat with e | e
       ·exact HP.out.2.2.2.2 k (by rw [<- e];exact hk)
       ·rw [hk] at e
        injection e with e
        right;omega
     clear hown hgr hat;go_wp2_with fail
     go_roundg (LV2.length-(i+1))
     case measure=>omega
     case rel=>exact ⟨i+1,rfl,by omega,by simp,by rw [HAS.out];exact HE.out.1,HE.out.2⟩
    ·obtain rfl:i=LV2.length:=by omega
     have hil:¬ ((LV2.length:Int)<(LV2.length:Int)):=by omega
     rw [List.take_length] at hT
     have hU2:Upd [] w wr:=HW.out.2.2.then hU fun k hk=>.inr (by have:=HK0.out.1 k (Option.mem_toList.1 hk);omega)
     have HT1:=Lib.hid (And.intro hT hU2);have HUN:=Lib.hid (unlike_spec w1.heap.size Z _ (LV.flatten++LV2.flatten) wr hT (HZ.out _ hU2) (by rw [List.length_append];omega));clear hT hU hB hU2;go_wp2_with fail;refine HUN.out.mono ?_;rintro e w7 hE;obtain ⟨uv,rfl,hN,hu7⟩:=hE.ex;obtain ⟨na,nc,hnv,_⟩:=hN.form;have HU7:=Lib.hid (HT1.out.2.trans hu7);have hlb:=unlikeT_len (LV.flatten++LV2.flatten);rw [List.length_append] at hlb;rw [<- HD.out] at hnv hlb;subst hnv;clear hE hN hu7 HUN HT1;go_wp2_with fail;go_ret;exact ⟨rfl,HU7.out⟩
end Go.Proofs.YtfkopmhpppeheaaGreat
