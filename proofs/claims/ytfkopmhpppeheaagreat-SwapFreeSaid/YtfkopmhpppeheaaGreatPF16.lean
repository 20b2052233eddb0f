import Derived.Test.YtfkopmhpppeheaaGreatPF15
set_option maxRecDepth 100000
set_option maxHeartbeats 1600000
namespace Go.Proofs.YtfkopmhpppeheaaGreat
open Go.RowKit Go.Maps Go.ChangeMaps Go.WideShapes
theorem Tryz.infoTabs:(Tryz.prog.info? 22).map (fun i=>(i.zero,i.size,i.bytes))=some (some (.slice none 0 0),1,24):=by kernel_rfl
def curT (c:List TV) (o:List Nat):List TV:=o.foldl givenT c
def levT:List TV->List Nat->List (List TV)
 | _,[]=>[]
 | c,v::o=>nodesT c v::levT (givenT c v) o
theorem curT_snoc (c:List TV) (o:List Nat) (v:Nat):curT c (o++[v])=givenT (curT c o) v:=by unfold curT;rw [List.foldl_append];rfl
theorem levT_snoc (c:List TV) (o:List Nat) (v:Nat):levT c (o++[v])=levT c o++[nodesT (curT c o) v]:=by
 induction o generalizing c with
 | nil=>rfl
 | cons a o ih=>simp only [List.cons_append,levT,ih];rfl
theorem levT_len (c:List TV) (o:List Nat):(levT c o).length=o.length:=by
 induction o generalizing c with
 | nil=>rfl
 | cons a o ih=>simp [levT,ih]
theorem curT_len (c:List TV) (o:List Nat):(curT c o).length<=2 ^ o.length*c.length:=by
 induction o generalizing c with
 | nil=>simp [curT]
 | cons a o ih =>
  have h1:=ih (givenT c a);have h2:=givenT_len c a;have h3:curT c (a::o)=curT (givenT c a) o:=rfl;rw [h3,List.length_cons,Nat.pow_succ]
  calc _<=2 ^ o.length*(givenT c a).length:=h1
   _<=2 ^ o.length*(2*c.length):=Nat.mul_le_mul_left _ h2
   _=_:=by rw [Nat.mul_assoc]
theorem mem_addT {l:List TV} {t u:TV}:u∈addT l t↔u∈l\/u=t:=by
 unfold addT;split
 ·constructor
  ·exact .inl
  ·rintro (h | rfl);exact h;assumption
 ·simp
theorem mem_unlikeT {L:List TV} {u:TV}:u∈unlikeT L↔u∈L:=by
 have key:∀ (L l:List TV),u∈L.foldl addT l↔u∈l\/u∈L:=by
  intro L
  induction L with
  | nil=>intro l;simp
  | cons a L ih=>intro l;rw [List.foldl_cons,ih,mem_addT,List.mem_cons,or_assoc]
 simpa [unlikeT] using key L []
theorem mem_givenT {L:List TV} {v:Nat} {u:TV}:u∈givenT L v↔∃ t,t∈L/\∃ b,u=cofT t v b:=by
 have key:∀ (L l:List TV),u∈L.foldl (fun l t=>addT (addT l (cofT t v false)) (cofT t v true)) l↔u∈l\/∃ t,t∈L/\∃ b,u=cofT t v b:=by
  intro L
  induction L with
  | nil=>intro l;simp
  | cons a L ih =>
   intro l
   rw [List.foldl_cons,ih,mem_addT,mem_addT];constructor
   ·rintro (((h | h) | h) | ⟨t,h,b,e⟩)
    ·exact .inl h
    ·exact .inr ⟨a,by simp,_,h⟩
    ·exact .inr ⟨a,by simp,_,h⟩
    ·exact .inr ⟨t,by simp [h],b,e⟩
   ·rintro (h | ⟨t,h,b,e⟩)
    ·exact .inl (.inl (.inl h))
    ·rcases List.mem_cons.1 h with rfl | h
     ·cases b
      ·exact .inl (.inl (.inr e))
      ·exact .inl (.inr e)
     ·exact .inr ⟨t,h,b,e⟩
 simpa [givenT] using key L []
theorem curT_n {c:List TV} {n:Nat} (h:∀ t,t∈c->t.n=n) (o:List Nat):∀ t,t∈curT c o->t.n=n:=by
 induction o generalizing c with
 | nil=>exact h
 | cons a o ih =>
  refine ih fun t ht=>?_
  obtain ⟨u,hu,b,rfl⟩:=mem_givenT.1 ht;exact h u hu
structure TLL (w:World) (n0:Nat) (Z:List Nat) (v:Value) (L:List (List TV)):Prop where
 ex:∃ cs:List Value,cs.length=L.length/\w.ownsRow n0 22 1 v L.length cs/\∀ (i:Nat) (l:List TV) (c:Value),L[i]?=some l->cs[i]?=some c->TLs w n0 Z c l
 fr:∀ k,v.ownBlock=some k->k∉Z
theorem TLL.row {w:World} {n0:Nat} {Z:List Nat} {v:Value} {L:List (List TV)} (h:TLL w n0 Z v L):∃ xs,w.ownsRow n0 22 1 v L.length xs:=by
 obtain ⟨cs,_,hr,_⟩:=h.ex;exact ⟨_,hr⟩
theorem TLL.keep {w w':World} {n0:Nat} {Z S:List Nat} {v:Value} {L:List (List TV)} (h:TLL w n0 Z v L) (u:Upd S w w') (hS:∀ k,k∈S->k∈Z\/w.heap.size<=k):TLL w' n0 Z v L:=by
 obtain ⟨cs,h1,h2,h3⟩:=h.ex;refine ⟨⟨cs,h1,row_keep h2 fun k hk=>u.block k (h2.lt k hk).2 fun hm=>?_,fun i t c ht hc=>(h3 i t c ht hc).keep u hS⟩,h.fr⟩
 rcases hS k hm with h4 | h4
 ·exact h.fr k hk h4
 ·have:=(h2.lt k hk).2;omega
theorem TLL.keep0 {w w':World} {n0:Nat} {Z:List Nat} {v:Value} {L:List (List TV)} (h:TLL w n0 Z v L) (u:Upd [] w w'):TLL w' n0 Z v L:=h.keep u (by simp)
theorem TLL.base {w:World} {n0 n1:Nat} {Z:List Nat} {v:Value} {L:List (List TV)} (h:TLL w n0 Z v L) (hn:n1<=n0):TLL w n1 Z v L:=by
 obtain ⟨cs,h1,h2,h3⟩:=h.ex;exact ⟨⟨cs,h1,row_base h2 hn,fun i t c ht hc=>(h3 i t c ht hc).base hn⟩,h.fr⟩
theorem TLL.nil (w:World) (n0:Nat) (Z:List Nat):TLL w n0 Z (.slice none 0 0) []:=⟨⟨[],rfl,World.ownsRow_nil _ _ _ _,fun i t c h=>by simp at h⟩,fun k hk=>by simp [Value.ownBlock] at hk⟩
theorem TLL.form {w:World} {n0:Nat} {Z:List Nat} {v:Value} {L:List (List TV)} (h:TLL w n0 Z v L):∃ (a:Option Addr) (c:Nat),v=.slice a L.length c/\(0<L.length->∃ g,a=some ⟨g,0,none⟩):=by
 obtain ⟨xs,hr⟩:=h.row;obtain ⟨a,c,hv,hh⟩:=row_nil_len hr;refine ⟨a,c,hv,fun hp=>?_⟩
 rcases hh with ⟨_,h0,_⟩ | hh
 ·omega
 ·exact hh
theorem TLL.at_ {w:World} {n0 n' cp g:Nat} {Z:List Nat} {L:List (List TV)} (h:TLL w n0 Z (.slice (some ⟨g,0,none⟩) n' cp) L) {i:Nat} {l:List TV} (ht:L[i]?=some l) :
  ∃ c,w.cell? ⟨g,i,none⟩=some c/\TLs w n0 Z c l:=by
 obtain ⟨cs,h1,h2,h3⟩:=h.ex
 have hil:i<L.length:=by
  by_cases e:i<L.length
  ·exact e
  ·rw [List.getElem?_eq_none (by omega)] at ht;cases ht
 have hc:cs[i]?=some (cs[i]'(by omega)):=List.getElem?_eq_getElem (by omega);exact ⟨_,row_cell h2 hc,h3 i l _ ht hc⟩
theorem row_type {w:World} {base:Nat} {e:TypeId} {sz n:Nat} {v:Value} {xs:List Value} (h:w.ownsRow base e sz v n xs) {k:Nat} (hk:v.ownBlock=some k) :
  ∃ cs fr,w.heap[k]?=some (.cells cs e fr):=by
 obtain ⟨_,(⟨e1,_⟩ | ⟨g,cap1,cur1,e1,hg,hh,_⟩)⟩:=h
 ·rw [e1] at hk;simp [Value.ownBlock] at hk
 ·rw [e1] at hk
  simp [Value.ownBlock] at hk
  subst hk;exact ⟨_,_,hh⟩
theorem TLs.other {w w':World} {n0:Nat} {Z:List Nat} {v:Value} {L:List TV} (h:TLs w n0 Z v L) {k0:Option Nat} (u:Upd k0.toList w w') (h0:∀ k,k0=some k->∃ cs fr,w.heap[k]?=some (.cells cs 22 fr)):TLs w' n0 Z v L:=by
 obtain ⟨cs,h1,h2,h3⟩:=h.ex
 have far:∀ {e:TypeId} {k:Nat},e≠22->(∃ cs fr,w.heap[k]?=some (.cells cs e fr))->k∉k0.toList:=fun {e k} hne hh hm=>by
  have hk:k0=some k:=by simpa using hm
  obtain ⟨c1,f1,e1⟩:=hh;obtain ⟨c2,f2,e2⟩:=h0 k hk;rw [e1] at e2
  injection e2 with e2
  injection e2 with _ e2 _
  exact hne e2
 refine ⟨⟨cs,h1,row_keep h2 fun k hk=>u.block k (h2.lt k hk).2 (far (by decide) (row_type h2 hk)),fun i t c ht hc=>?_⟩,h.fr⟩;have ht':=h3 i t c ht hc;exact ⟨ht'.ok,row_keep ht'.row fun k hk=>u.block k (ht'.row.lt k hk).2 (far (by decide) (row_type ht'.row hk)),ht'.fr⟩
theorem TLL.push {w w5:World} {n0 g5 cap:Nat} {Z:List Nat} {v c:Value} {L:List (List TV)} {l:List TV} {X:Obj} (h:TLL w n0 Z v L) (ht:TLs w n0 Z c l) (hZ:∀ k,k∈Z->k<n0)
  (hgr:(w.alloc X).grownBy w5 v.ownBlock) {xs:List Value} (hrow:w.ownsRow n0 22 1 v L.length xs) (hown:w5.ownsRow n0 22 1 (.slice (some ⟨g5,0,none⟩) (L.length+1) cap) (L.length+1) (xs++[c])) :
  TLL w5 n0 Z (.slice (some ⟨g5,0,none⟩) (L.length+1) cap) (L++[l])/\Upd v.ownBlock.toList w w5:=by
 obtain ⟨cs,h1,h2,h3⟩:=h.ex
 obtain rfl:xs=cs:=by
  obtain ⟨e1,c1⟩:=hrow;obtain ⟨e2,c2⟩:=h2
  rcases c1 with ⟨rfl,h0⟩ | ⟨g,cap1,cur1,rfl,hg,hh,_,_,_,k1⟩
  ·rcases c2 with ⟨_,_⟩ | ⟨g,cap2,cur2,e,_⟩
   ·have a1:xs.length=0:=by rw [e1,h0]
    have a2:cs.length=0:=by rw [e2,h0]
    rw [List.length_eq_zero_iff.1 a1,List.length_eq_zero_iff.1 a2]
   ·simp at e
  ·rcases c2 with ⟨e,_⟩ | ⟨g',cap2,cur2,e,hg',hh',_,_,_,k2⟩
   ·simp at e
   ·simp at e
    obtain ⟨rfl,_⟩:=e
    rw [hh] at hh';cases hh'
    rw [<- k1,<- k2]
 have hu:Upd v.ownBlock.toList w w5:=((Upd.refl _ w).alloc X).grown hgr fun k hk=>.inl (by rw [hk];simp)
 have keep:∀ {m:List TV} {d:Value},TLs w n0 Z d m->TLs w5 n0 Z d m:=fun {m d} hd=>hd.other hu fun k hk=>row_type hrow hk
 refine ⟨⟨⟨xs++[c],by simp [h1],by rw [List.length_append,List.length_singleton];exact hown,fun i u d hu' hd=>?_⟩,fun k hk hm=>?_⟩,hu⟩
 ·by_cases hi:i<L.length
  ·rw [List.getElem?_append_left hi] at hu'
   rw [List.getElem?_append_left (by omega)] at hd;exact keep (h3 i u d hu' hd)
  ·rw [List.getElem?_append_right (by omega)] at hu'
   rw [List.getElem?_append_right (by omega),h1] at hd
   cases e:i-L.length with
   | zero=>rw [e] at hu' hd;simp at hu' hd;subst hu' hd;exact keep ht
   | succ j=>rw [e] at hu';simp at hu'
 ·have h4:=(hown.lt k hk).1
  have h5:=hZ k hm;omega
structure TLLQ (Z:List Nat) (L:List (List TV)) (w:World) (e:Ending) (w':World):Prop where
 ex:∃ v:Value,e=.returned v/\TLL w' w.heap.size Z v L/\Upd [] w w'
theorem levels_spec (n0 n1:Nat) (Z:List Nat) (v vo:Value) (L:List TV) (o:List Nat) (n:Nat) (w:World) (h:TLs w n0 Z v L) (hZ:∀ k,k∈Z->k<w.heap.size) (hl:L.length<=4194304)
  (hn:∀ t,t∈L->t.n=n) (hn6:n<=8) (ho:w.ownsRow n1 3 1 vo o.length (flatN o)) (hol:o.length<=8) (hon:∀ x,x∈o->x<n) :
  Calls Tryz.prog 148 #[v,vo] w fun e w'=>TLLQ Z (levT (unlikeT L) o) w e w':=by
 obtain ⟨ti,hi2,hz2,hs2,hb2⟩:=info_parts Tryz.infoTabs;have HI:=Lib.hid (And.intro hi2 (And.intro hz2 (And.intro hs2 hb2)));have HZ:=Lib.hid hZ;have HUN:=Lib.hid (unlike_spec n0 Z v L w h hZ (by omega))
 have HN:Hid (∀ t,t∈unlikeT L->t.n=n):=fun t ht=>hn t (mem_unlikeT.1 ht)
 have HON:=Lib.hid hon;have hul:(unlikeT L).length<=4194304:=Nat.le_trans (unlikeT_len L) hl;obtain ⟨oa,oc,rfl,hof⟩:=row_nil_len ho;have HO:=Lib.hid ho;generalize unlikeT L=C at *;clear h hZ hi2 hz2 hs2 hb2 hn ho hon hl
 go_enter Tryz.func148,Tryz.ntmps148
 go_wp2_with fail;refine HUN.out.mono ?_;rintro e w1 hE;obtain ⟨cv,rfl,hC,hu1⟩:=hE.ex;have HC:=Lib.hid (And.intro hC hu1);clear hC hu1 hE HUN;go_wp2_with fail
 go_loopg [5,6,13] o.length (fun g s5 s6 s13 wr=>∃ i:Nat,o.length-i=g/\i<=o.length/\s13=.int .i64 i/\TLL wr w.heap.size Z s5 (levT C (o.take i))/\TLs wr w.heap.size Z s6 (curT C (o.take i))/\Upd [] w wr)
 case atStart=>exact ⟨0,by omega,by omega,rfl,by simpa [levT] using TLL.nil w1 w.heap.size Z,by simpa [curT] using HC.out.1,HC.out.2⟩
 case round =>
  obtain ⟨i,rfl,hi,rfl,hT,hc,hU⟩:=hrel
  by_cases hlt:i<o.length
  ·obtain ⟨x,hx⟩ : ∃ x,o[i]?=some x:=⟨_,List.getElem?_eq_getElem hlt⟩
   obtain ⟨ga,rfl⟩:=row_some HO.out (by omega);have hxn:=HON.out x (List.mem_of_getElem? hx);have x0:wr.cell? ⟨ga,i,none⟩=some (.int .i64 x):=row_cell (row_keep HO.out fun k hk=>hU.block k (HO.out.lt k hk).2 (by simp)) (by simp [flatN,hx]);obtain ⟨aa,ac,hav,_⟩:=hT.form;subst hav;obtain ⟨ca,cc,hcv,_⟩:=hc.form;subst hcv
   have hil:(i:Int)<(o.length:Int):=by omega
   have hcn:=curT_n HN.out (o.take i)
   have hcl:(curT C (o.take i)).length<=536870912:=by
    have h1:=curT_len C (o.take i)
    have h2:(2:Nat) ^ (o.take i).length<=128:=by
     have:(o.take i).length<=7:=by rw [List.length_take];omega
     calc 2 ^ (o.take i).length<=2 ^ 7:=Nat.pow_le_pow_right (by omega) this
      _=128:=rfl
    calc _<=_:=h1
     _<=128*4194304:=Nat.mul_le_mul h2 hul
     _=_:=rfl
   have HS:Hid (levT C (o.take (i+1))=levT C (o.take i)++[nodesT (curT C (o.take i)) x]/\curT C (o.take (i+1))=givenT (curT C (o.take i)) x):=by
    show _/\_
    rw [List.take_add_one,hx];exact ⟨levT_snoc _ _ _,curT_snoc _ _ _⟩
   have hll:(levT C (o.take i)).length<=8:=by rw [levT_len,List.length_take];omega
   generalize levT C (o.take i)=LV at *;generalize curT C (o.take i)=CU at *
   have HZr:Hid (∀ k,k∈Z->k<wr.heap.size):=fun k hk=>Nat.lt_of_lt_of_le (HZ.out k hk) hU.size
   have HT:=Lib.hid (And.intro hT (And.intro hc hU));have HND:=Lib.hid (nodes_spec w.heap.size Z (.slice ca CU.length cc) CU x wr hc HZr.out (by omega) (fun t ht=>by rw [hcn t ht];exact hxn) (by omega));have HCN:=Lib.hid hcn;clear hT hc hU hx hcn;go_wp2_with fail;refine HND.out.mono ?_;rintro e w3 hE;obtain ⟨nv,rfl,hN,hu3⟩:=hE.ex;obtain ⟨na,nc,hnv,_⟩:=hN.form;generalize hNL:(nodesT CU x).length=NL at hnv;subst hnv;clear hNL;have HT3:=Lib.hid (And.intro (HT.out.1.keep0 hu3) (And.intro (HT.out.2.1.keep0 hu3) (And.intro (hN.base HT.out.2.2.size) (HT.out.2.2.trans hu3))))
   have HZ3:Hid (∀ k,k∈Z->k<w3.heap.size):=fun k hk=>Nat.lt_of_lt_of_le (HZr.out k hk) hu3.size
   obtain ⟨xs,hrow⟩:=HT3.out.1.row;have HROW:=Lib.hid hrow
   have HC2:Hid (∀ z,z∈[Value.slice na NL nc]->z.oneCell'=true):=by
    intro z hz
    simp at hz
    subst hz;rfl
   have hsz3:=HT3.out.2.2.2.size
   have hbs:w.heap.size<=(w3.alloc (.cells #[.slice na NL nc] 22 (0,0))).heap.size:=by rw [World.size_alloc];omega
   clear hN hu3 hE HND HT hrow x0
   go_wp2_with (at_builtin;go_must (refine wpList_append_lies _ rfl (.tmp 17) (.tmp 21) 218 rfl w.heap.size 22 ti _ 1 24 Tryz.underlying218 HI.out.1 HI.out.2.1 HI.out.2.2.1 HI.out.2.2.2 (by rfl) (by decide) _ LV.length xs rfl (HROW.out.alloc _) ⟨w3.heap.size,0,none⟩ 1 1 [.slice na NL nc] rfl rfl ?c1 HC2.out (by omega) (by unfold maxLen;omega) (by omega) hbs _ rfl ?_))
   case c1=>exact World.news_of_block (heap_alloc_new w3 (.cells #[.slice na NL nc] 22 (0,0)))
   intro g5 cap w5 hown hgr hat hlt5
   have HE:Hid (TLL w5 w.heap.size Z (.slice (some ⟨g5,0,none⟩) (LV.length+1) cap) (LV++[nodesT CU x])/\TLs w5 w.heap.size Z (.slice ca CU.length cc) CU/\Upd [] w w5):=by
    have hp:=HT3.out.1.push HT3.out.2.2.1 HZ.out hgr HROW.out hown;refine ⟨hp.1,HT3.out.2.1.other hp.2 fun k hk=>row_type HROW.out hk,HT3.out.2.2.2.then hp.2 fun k hk=>.inr ?_⟩
    have hk':(Value.slice aa LV.length ac).ownBlock=some k:=by simpa using hk
    exact (HROW.out.lt k hk').1
   have HGV:=Lib.hid (given_spec w.heap.size Z (.slice ca CU.length cc) CU x w5 HE.out.2.1 (fun k hk=>Nat.lt_of_lt_of_le (HZ.out k hk) HE.out.2.2.size) (by omega) (fun t ht=>by rw [HCN.out t ht];exact hxn) (by omega));clear hown hgr hat hlt5 HT3 HROW;go_wp2_with fail;refine HGV.out.mono ?_;rintro e w6 hE;obtain ⟨gv,rfl,hG,hu6⟩:=hE.ex;have HF:=Lib.hid (And.intro (HE.out.1.keep0 hu6) (And.intro (hG.base HE.out.2.2.size) (HE.out.2.2.trans hu6)));clear hG hu6 hE HGV HE;go_wp2_with fail
   go_roundg (o.length-(i+1))
   case measure=>omega
   case rel=>exact ⟨i+1,rfl,by omega,by simp,by rw [HS.out.1];exact HF.out.1,by rw [HS.out.2];exact HF.out.2.1,HF.out.2.2⟩
  ·obtain rfl:i=o.length:=by omega
   have hil:¬ ((o.length:Int)<(o.length:Int)):=by omega
   have HE:Hid (TLL wr w.heap.size Z _ (levT C o)/\Upd [] w wr):=⟨by rw [List.take_length] at hT;exact hT,hU⟩;clear hT hU hc;go_wp2_with fail;go_ret;exact ⟨_,rfl,HE.out⟩
end Go.Proofs.YtfkopmhpppeheaaGreat
namespace Go.Proofs.YtfkopmhpppeheaaGreat
def mixO (o:List Nat) (a y:Nat->Bool):Nat->Bool:=fun v=>if v∈o then a v else y v
theorem mixO_nil (a y:Nat->Bool):mixO [] a y=y:=by funext v;simp [mixO]
theorem mixO_cons (v:Nat) (o:List Nat) (a y:Nat->Bool):mixO (v::o) a y=upd (mixO o a y) v (a v):=by
 funext u
 simp only [mixO,upd,List.mem_cons]
 by_cases e:u=v
 ·subst e;simp
 ·simp [e]
theorem upd_mixO (v:Nat) (o:List Nat) (a y:Nat->Bool) (b:Bool):upd (mixO o a y) v b=mixO (v::o) (upd a v b) y:=by
 funext u
 simp only [mixO,upd,List.mem_cons]
 by_cases e:u=v
 ·subst e;simp
 ·simp [e]
theorem mem_curT {n:Nat}:∀ (o:List Nat) (c:List TV),(∀ t,t∈c->t.Ok/\t.n=n)->(∀ v,v∈o->v<n)->∀ {u:TV},u∈curT c o↔(u.Ok/\u.n=n/\∃ t,t∈c/\∃ a,∀ y,u.fn y=t.fn (mixO o a y))
 | [],c,hc,_,u=>by
  constructor
  ·intro h
   exact ⟨(hc u h).1,(hc u h).2,u,h,fun _=>false,fun y=>by rw [mixO_nil]⟩
  ·rintro ⟨h1,h2,t,ht,a,he⟩
   have:u=t:=TV.fn_ext h1 (hc t ht).1 (h2.trans (hc t ht).2.symm) fun y=>by rw [he,mixO_nil]
   subst this;exact ht
 | v::o,c,hc,ho,u=>by
  have hvn:=ho v (by simp)
  have hg:∀ t,t∈givenT c v->t.Ok/\t.n=n:=fun t ht=>by
   obtain ⟨s,hs,b,rfl⟩:=mem_givenT.1 ht;exact ⟨cofT_ok (hc s hs).1 v b,(hc s hs).2⟩
  have ih:=mem_curT o (givenT c v) hg (fun x hx=>ho x (by simp [hx])) (u:=u)
  show u∈curT (givenT c v) o↔_
  rw [ih];constructor
  ·rintro ⟨h1,h2,t,ht,a,he⟩
   obtain ⟨s,hs,b,rfl⟩:=mem_givenT.1 ht;refine ⟨h1,h2,s,hs,upd a v b,fun y=>?_⟩;rw [he,cofT_fn (by rw [(hc s hs).2];exact hvn),upd_mixO]
  ·rintro ⟨h1,h2,s,hs,a,he⟩
   refine ⟨h1,h2,cofT s v (a v),mem_givenT.2 ⟨s,hs,a v,rfl⟩,a,fun y=>?_⟩;rw [he,cofT_fn (by rw [(hc s hs).2];exact hvn),mixO_cons]
theorem mem_nodesT {L:List TV} {v:Nat} {u:TV}:u∈nodesT L v↔u∈L/\depT u v=true:=by simp [nodesT]
def flatT (L:List TV) (o:List Nat):List TV:=(levT (unlikeT L) o).flatten
theorem mem_levF {u:TV}:∀ (o:List Nat) (c:List TV),u∈(levT c o).flatten↔∃ i v,o[i]?=some v/\u∈curT c (o.take i)/\depT u v=true
 | [],c=>by simp [levT]
 | x::o,c=>by
  have ih:=mem_levF (u:=u) o (givenT c x)
  show u∈(nodesT c x::levT (givenT c x) o).flatten↔_
  rw [List.flatten_cons,List.mem_append,mem_nodesT,ih];constructor
  ·rintro (⟨h1,h2⟩ | ⟨i,v,h1,h2,h3⟩)
   ·exact ⟨0,x,rfl,h1,h2⟩
   ·exact ⟨i+1,v,h1,h2,h3⟩
  ·rintro ⟨i,v,h1,h2,h3⟩
   cases i with
   | zero=>simp at h1;subst h1;exact .inl ⟨h2,h3⟩
   | succ i=>exact .inr ⟨i,v,h1,h2,h3⟩
theorem addT_nodup {l:List TV} (h:l.Nodup) (t:TV):(addT l t).Nodup:=by
 unfold addT;split
 ·exact h
 ·rename_i hn
  rw [List.nodup_append];exact ⟨h,by simp,fun a ha b hb e=>by simp at hb;subst hb;subst e;exact hn ha⟩
theorem givenT_nodup (L:List TV) (v:Nat):(givenT L v).Nodup:=by
 have key:∀ (L l:List TV),l.Nodup->(L.foldl (fun l t=>addT (addT l (cofT t v false)) (cofT t v true)) l).Nodup:=by
  intro L
  induction L with
  | nil=>intro l h;exact h
  | cons a L ih=>intro l h;exact ih _ (addT_nodup (addT_nodup h _) _)
 exact key L [] (by simp)
theorem unlikeT_nodup (L:List TV):(unlikeT L).Nodup:=by
 have key:∀ (L l:List TV),l.Nodup->(L.foldl addT l).Nodup:=by
  intro L
  induction L with
  | nil=>intro l h;exact h
  | cons a L ih=>intro l h;exact ih _ (addT_nodup h _)
 exact key L [] (by simp)
theorem levF_nodup {n:Nat}:∀ (o:List Nat) (c:List TV),c.Nodup->(∀ t,t∈c->t.Ok/\t.n=n)->(∀ v,v∈o->v<n)->(levT c o).flatten.Nodup
 | [],c,_,_,_=>by simp [levT]
 | x::o,c,hd,hc,ho=>by
  have hg:∀ t,t∈givenT c x->t.Ok/\t.n=n:=fun t ht=>by
   obtain ⟨s,hs,b,rfl⟩:=mem_givenT.1 ht;exact ⟨cofT_ok (hc s hs).1 x b,(hc s hs).2⟩
  show (nodesT c x::levT (givenT c x) o).flatten.Nodup
  rw [List.flatten_cons,List.nodup_append];refine ⟨List.Pairwise.filter _ hd,levF_nodup o _ (givenT_nodup c x) hg (fun v hv=>ho v (by simp [hv])),fun a ha b hb e=>?_⟩;subst e;obtain ⟨h1,h2⟩:=mem_nodesT.1 ha;obtain ⟨i,v,_,h4,_⟩:=(mem_levF o (givenT c x)).1 hb;have hxn:=ho x (by simp);obtain ⟨_,_,t,ht,av,he⟩:=(mem_curT (n:=n) (o.take i) (givenT c x) hg (fun v hv=>ho v (by simp [List.mem_of_mem_take hv]))).1 h4;obtain ⟨s,hs,b,rfl⟩:=mem_givenT.1 ht;obtain ⟨y,hy⟩:=(depT_iff (hc a h1).1 (by rw [(hc a h1).2];exact hxn)).1 h2;refine hy ?_;rw [he,he,cofT_fn (by rw [(hc s hs).2];exact hxn),cofT_fn (by rw [(hc s hs).2];exact hxn)]
  congr 1
  funext u
  simp only [upd,mixO]
  by_cases e:u=x
  ·simp [e]
  ·simp [e]
theorem flatT_nodup {n:Nat} {L:List TV} {o:List Nat} (hc:∀ t,t∈L->t.Ok/\t.n=n) (ho:∀ v,v∈o->v<n):(flatT L o).Nodup :=
 levF_nodup o _ (unlikeT_nodup L) (fun t ht=>hc t (mem_unlikeT.1 ht)) ho
theorem mem_flatT {n:Nat} {L:List TV} {o:List Nat} (hc:∀ t,t∈L->t.Ok/\t.n=n) (ho:∀ v,v∈o->v<n) {u:TV} :
  u∈flatT L o↔∃ i v,o[i]?=some v/\u.Ok/\u.n=n/\(∃ t,t∈L/\∃ a,∀ y,u.fn y=t.fn (mixO (o.take i) a y))/\Hangs u.fn v:=by
 unfold flatT;rw [mem_levF];constructor
 ·rintro ⟨i,v,h1,h2,h3⟩
  obtain ⟨a1,a2,t,ht,a3⟩:=(mem_curT (n:=n) _ _ (fun t ht=>hc t (mem_unlikeT.1 ht)) (fun v hv=>ho v (List.mem_of_mem_take hv))).1 h2;exact ⟨i,v,h1,a1,a2,⟨t,mem_unlikeT.1 ht,a3⟩,(depT_iff a1 (by rw [a2];exact ho v (List.mem_of_getElem? h1))).1 h3⟩
 ·rintro ⟨i,v,h1,a1,a2,⟨t,ht,a3⟩,h3⟩
  exact ⟨i,v,h1,(mem_curT (n:=n) _ _ (fun t ht=>hc t (mem_unlikeT.1 ht)) (fun v hv=>ho v (List.mem_of_mem_take hv))).2 ⟨a1,a2,t,mem_unlikeT.2 ht,a3⟩,(depT_iff a1 (by rw [a2];exact ho v (List.mem_of_getElem? h1))).2 h3⟩
theorem KV.Perm.mem_take {K:KV} (h:K.Perm) {l v:Nat}:v∈K.order.take l↔v<K.vars/\K.lev v<l:=by
 constructor
 ·intro hv
  obtain ⟨i,hi⟩:=List.getElem?_of_mem hv;rw [List.getElem?_take] at hi
  split at hi
  ·rename_i hil
   have hlt:i<K.order.length:=by
    by_cases e:i<K.order.length
    ·exact e
    ·rw [List.getElem?_eq_none (by omega)] at hi;cases hi
   have e:K.order.getD i 0=v:=by rw [List.getD_eq_getElem?_getD,hi];rfl
   have:=h.oo i (by rw [<- h.ol];exact hlt);rw [e] at this;exact ⟨this.1,by omega⟩
  ·cases hi
 ·rintro ⟨hv,hl⟩
  have:=h.lo v hv
  have hi:K.order[K.lev v]?=some v:=by
   rw [List.getElem?_eq_getElem (by rw [h.ol];exact this.1)];have e:=this.2;rw [List.getD_eq_getElem?_getD,List.getElem?_eq_getElem (by rw [h.ol];exact this.1)] at e
   simpa using e
  exact List.mem_of_getElem? (i:=K.lev v) (by rw [List.getElem?_take,if_pos hl];exact hi)
theorem KV.Perm.mem_order {K:KV} (h:K.Perm) {v:Nat} (hv:v∈K.order):v<K.vars:=by
 have:=h.mem_take (l:=K.order.length) (v:=v);rw [List.take_length] at this;exact (this.1 hv).1
theorem KV.Perm.order_at {K:KV} (h:K.Perm) {v:Nat} (hv:v<K.vars):K.order[K.lev v]?=some v:=by
 have:=h.lo v hv;rw [List.getElem?_eq_getElem (by rw [h.ol];exact this.1)];have e:=this.2;rw [List.getD_eq_getElem?_getD,List.getElem?_eq_getElem (by rw [h.ol];exact this.1)] at e
 simpa using e
theorem KV.Perm.at_order {K:KV} (h:K.Perm) {i v:Nat} (hi:K.order[i]?=some v):v<K.vars/\K.lev v=i:=by
 have hlt:i<K.order.length:=by
  by_cases e:i<K.order.length
  ·exact e
  ·rw [List.getElem?_eq_none (by omega)] at hi;cases hi
 have e:K.order.getD i 0=v:=by rw [List.getD_eq_getElem?_getD,hi];rfl
 have:=h.oo i (by rw [<- h.ol];exact hlt)
 rw [e] at this;exact this
theorem KV.Perm.mixO {K:KV} (h:K.Perm) (l:Nat) (a y:Nat->Bool):mixO (K.order.take l) a y=K.mix l a y:=by
 funext v
 simp only [Go.Proofs.YtfkopmhpppeheaaGreat.mixO,KV.mix]
 by_cases e:v∈K.order.take l
 ·rw [if_pos e,if_pos (h.mem_take.1 e)]
 ·rw [if_neg e,if_neg fun k=>e (h.mem_take.2 k)]
def KV.tab (K:KV) (r:Nat):TV:=mkT K.vars fun x=>K.den r fun v=>x.testBit v
theorem KV.Ok.den_low {K:KV} (hk:K.Ok) {r:Nat} (ht:K.A.tk r=true) {x y:Nat->Bool} (h:∀ v,v<K.vars->x v=y v):K.den r x=K.den r y :=
 KV.den_same hk.wf hk.ord _ r x y ht (Nat.le_refl _) fun v hv _=>h v hv
theorem KV.Ok.tab_fn {K:KV} (hk:K.Ok) {r:Nat} (ht:K.A.tk r=true) (y:Nat->Bool):(K.tab r).fn y=K.den r y:=by
 unfold KV.tab;rw [mkT_fn]
 exact hk.den_low ht fun v hv=>by rw [idx_bit];simp [hv]
theorem KV.tab_ok {K:KV} (h:K.vars<=16) (r:Nat):(K.tab r).Ok/\(K.tab r).n=K.vars:=⟨mkT_ok _ h,rfl⟩
theorem KV.Ok.tab_eq {K:KV} (hk:K.Ok) (hn:K.vars<=16) {r:Nat} (ht:K.A.tk r=true) {t:TV} (h1:t.Ok) (h2:t.n=K.vars) (h:∀ y,K.den r y=t.fn y):K.tab r=t :=
 TV.fn_ext (KV.tab_ok hn r).1 h1 h2.symm fun y=>by rw [hk.tab_fn ht,h]
theorem KV.Ok.tab_inj {K:KV} (hk:K.Ok) (hu:K.Uni) {r s:Nat} (hr:K.A.tk r=true) (hs:K.A.tk s=true) (e:K.tab r=K.tab s):r=s :=
 KV.canon hk.wf hk.ord hu _ _ _ hr hs (Nat.le_refl _) fun y=>by rw [<- hk.tab_fn hr,<- hk.tab_fn hs,e]
def KV.nodes (K:KV):List Nat:=K.lives.filter fun r=>decide (2<=r)
theorem KV.mem_nodes {K:KV} {r:Nat}:r∈K.nodes↔2<=r/\K.A.tk r=true:=by
 simp only [KV.nodes,List.mem_filter,KV.mem_lives,decide_eq_true_eq];exact And.comm
theorem KV.nodes_nodup (K:KV):K.nodes.Nodup:=List.Pairwise.filter _ K.lives_nodup
theorem KV.Ok.nodes_len {K:KV} (hk:K.Ok):K.nodes.length+2=K.A.used:=by
 rw [<- K.lives_len hk.wf];have h01:=hk.wf.ok.tk01;refine Nat.le_antisymm ?_ ?_
 ·have:(0::1::K.nodes).length<=K.lives.length:=List.Nodup.length_le_of_subset (by
   rw [List.nodup_cons,List.nodup_cons]
   exact ⟨by simp [KV.mem_nodes],by simp [KV.mem_nodes],K.nodes_nodup⟩) (by
   intro x hx
   rcases List.mem_cons.1 hx with rfl | hx
   ·exact KV.mem_lives.2 h01.1
   ·rcases List.mem_cons.1 hx with rfl | hx
    ·exact KV.mem_lives.2 h01.2
    ·exact KV.mem_lives.2 (KV.mem_nodes.1 hx).2)
  simpa using this
 ·have:K.lives.length<=(0::1::K.nodes).length:=List.Nodup.length_le_of_subset K.lives_nodup (by
   intro x hx
   have ht:=KV.mem_lives.1 hx
   by_cases h0:x=0
   ·simp [h0]
   ·by_cases h1:x=1
    ·simp [h1]
    ·exact List.mem_cons_of_mem _ (List.mem_cons_of_mem _ (KV.mem_nodes.2 ⟨by omega,ht⟩)))
  simpa using this
structure RootsT (K:KV) (L:List TV):Prop where
 rt:∀ r,0<K.hold r->∃ t,t∈L/\∀ y,K.den r y=t.fn y
 lr:∀ t,t∈L->∃ r,K.A.tk r=true/\∀ y,K.den r y=t.fn y
 ok:∀ t,t∈L->t.Ok/\t.n=K.vars
def SubL (K:KV) (L:List TV) (g:(Nat->Bool)->Bool):Prop:=∃ t,t∈L/\K.SubN t.fn g
theorem mix_mix (K:KV) {l i:Nat} (h:l<=i) (a c y:Nat->Bool):K.mix l a (K.mix i c y)=K.mix i (K.mix l a c) y:=by
 funext v
 simp only [KV.mix]
 by_cases h1:v<K.vars/\K.lev v<l
 ·rw [if_pos h1,if_pos ⟨h1.1,by omega⟩,if_pos h1]
 ·rw [if_neg h1]
  by_cases h2:v<K.vars/\K.lev v<i
  ·rw [if_pos h2,if_pos h2,if_neg h1]
  ·rw [if_neg h2,if_neg h2]
theorem free_above {K:KV} (hp:K.Perm) {g:(Nat->Bool)->Bool}:∀ (i:Nat),i<=K.vars->(∀ v,v<K.vars->K.lev v<i->¬ Hangs g v)->∀ (c y:Nat->Bool),g (K.mix i c y)=g y
 | 0,_,_,c,y=>by congr 1;funext v;simp [KV.mix]
 | i+1,hi,h,c,y=>by
  have ih:=free_above hp i (by omega) (fun v h1 h2=>h v h1 (by omega)) c y;have hv:=hp.oo i (by omega);obtain ⟨v,hve⟩ : ∃ v,K.order.getD i 0=v:=⟨_,rfl⟩;rw [hve] at hv
  have e:K.mix (i+1) c y=upd (K.mix i c y) v (c v):=by
   funext u
   simp only [KV.mix,upd]
   by_cases hu:u=v
   ·subst hu;rw [if_pos rfl,if_pos ⟨hv.1,by omega⟩]
   ·rw [if_neg hu]
    by_cases h1:u<K.vars/\K.lev u<i
    ·rw [if_pos h1,if_pos ⟨h1.1,by omega⟩]
    ·rw [if_neg h1,if_neg]
     rintro ⟨h2,h3⟩;refine hu (hp.inj h2 hv.1 ?_);omega
  have hn:=h v hv.1 (by omega)
  have same:∀ (z:Nat->Bool) (b:Bool),g (upd z v b)=g z:=fun z b=>by
   have e1:g (upd z v true)=g (upd z v false):=by
    by_cases e1:g (upd z v true)=g (upd z v false)
    ·exact e1
    ·exact absurd ⟨z,e1⟩ hn
   have e2:g z=g (upd z v (z v)):=by rw [upd_id]
   rw [e2]
   cases b <;> cases z v <;> simp_all
  rw [e,same,ih]
theorem first_hang {K:KV} (g:(Nat->Bool)->Bool):∀ (k:Nat),(∀ v,v<K.vars->K.lev v<k->¬ Hangs g v)\/∃ v,v<K.vars/\Hangs g v/\∀ u,u<K.vars->K.lev u<K.lev v->¬ Hangs g u
 | 0=>.inl fun v _ h=>by omega
 | k+1=>by
  rcases first_hang g k with h | h
  ·by_cases hh:∃ v,v<K.vars/\K.lev v=k/\Hangs g v
   ·obtain ⟨v,h1,h2,h3⟩:=hh
    exact .inr ⟨v,h1,h3,fun u hu hl=>h u hu (by omega)⟩
   ·refine .inl fun v hv hl hg=>?_
    by_cases e:K.lev v=k
    ·exact hh ⟨v,hv,e,hg⟩
    ·exact h v hv (by omega) hg
  ·exact .inr h
theorem flat_of {K:KV} (hp:K.Perm) {L:List TV} (hL:∀ t,t∈L->t.Ok/\t.n=K.vars) {u:TV} (h1:u.Ok) (h2:u.n=K.vars) (hs:SubL K L u.fn) {v:Nat} (hv:v<K.vars) (hh:Hangs u.fn v) (hno:∀ x,x<K.vars->K.lev x<K.lev v->¬ Hangs u.fn x) :
  u∈flatT L K.order:=by
 obtain ⟨t,ht,l,a,he⟩:=hs;refine (mem_flatT hL fun x hx=>hp.mem_order hx).2 ⟨K.lev v,v,hp.order_at hv,h1,h2,⟨t,ht,K.mix l a (fun _=>false),fun y=>?_⟩,hh⟩
 have hl:l<=K.lev v:=by
  by_cases hl:l<=K.lev v
  ·exact hl
  ·exfalso
   obtain ⟨y,hy⟩:=hh;refine hy ?_;rw [he,he]
   congr 1
   funext x
   simp only [KV.mix,upd]
   by_cases e:x=v
   ·subst e;rw [if_pos ⟨hv,by omega⟩,if_pos ⟨hv,by omega⟩]
   ·simp [e]
 have hlv:=(hp.lo v hv).1;rw [hp.mixO,<- mix_mix K hl,<- he,free_above hp _ (by omega) hno]
theorem KV.Ok.node_hangs {K:KV} (hk:K.Ok) (hu:K.Uni) {r:Nat} (h2:2<=r) (ht:K.A.tk r=true):∃ v,v<K.vars/\K.dep r=K.lev v/\Hangs (K.den r) v/\∀ x,x<K.vars->K.lev x<K.lev v->¬ Hangs (K.den r) x:=by
 obtain ⟨p,v,hp,hpt,hv,hvl,h3,h4,hd⟩:=hk.wf.node_at h2 ht;refine ⟨v,hvl,hd,?_,fun x hx hl=>?_⟩
 ·by_cases hh:Hangs (K.den r) v
  ·exact hh
  ·exfalso
   refine hk.ord.ne r p h2 hp hpt (KV.canon hk.wf hk.ord hu _ _ _ h3 h4 (Nat.le_refl _) fun y=>?_)
   have e:K.den r (upd y v true)=K.den r (upd y v false):=by
    by_cases e:K.den r (upd y v true)=K.den r (upd y v false)
    ·exact e
    ·exact absurd ⟨y,e⟩ hh
   have hvn:p.var.toNat=v:=by omega
   have a1:=KV.den_hi hk.wf hk.ord h2 hp hpt y;have a2:=KV.den_lo hk.wf hk.ord h2 hp hpt y;rw [hvn] at a1 a2;rw [<- a1,<- a2,e]
 ·rintro ⟨y,hy⟩
  refine hy ?_;rw [KV.den_upd hk.wf hk.ord ht hx (by omega),KV.den_upd hk.wf hk.ord ht hx (by omega)]
theorem RootsT.sub {K:KV} {L:List TV} (h:RootsT K L) (hk:K.Ok) {r:Nat} (hr:K.Reach r):SubL K L (K.den r):=by
 have key:∀ {r:Nat},K.Reach r->∃ t,t∈L/\∃ a,∀ y,K.den r y=t.fn (K.mix (K.dep r) a y):=by
  intro r hr
  induction hr with
  | root h0 =>
   obtain ⟨t,ht,he⟩:=h.rt _ h0;refine ⟨t,ht,fun _=>false,fun y=>?_⟩;rw [<- he]
   refine KV.den_same hk.wf hk.ord _ _ _ _ (hk.wf.ht _ h0).2 (Nat.le_refl _) fun v hv hd=>?_
   simp only [KV.mix];rw [if_neg (by omega)]
  | @lo q p hq h2 hp hpt ih =>
   obtain ⟨t,ht,a,he⟩:=ih;obtain ⟨_,v,hp',_,hv,hvl,h3,h4,hd⟩:=hk.wf.node_at h2 (ArenaV.tk_iff.2 ⟨p,hp,hpt⟩)
   rw [hp] at hp';cases hp'
   have hvn:p.var.toNat=v:=by omega
   have hb:=hk.ord.below hk.wf h2 hp hpt;refine ⟨t,ht,K.mix (K.dep q) a (upd (fun _=>false) v false),fun y=>?_⟩
   have e1:K.den p.lo y=K.den p.lo (K.mix (K.dep p.lo) (fun _=>false) y):=KV.den_same hk.wf hk.ord _ _ _ _ h3 (Nat.le_refl _) fun x hx hdx=>by
    simp only [KV.mix];rw [if_neg (by omega)]
   rw [e1,<- KV.den_lo hk.wf hk.ord h2 hp hpt,he,<- mix_mix K (by omega)]
   congr 1
   funext x
   simp only [KV.mix,upd,hvn]
   by_cases h5:x<K.vars/\K.lev x<K.dep q
   ·rw [if_pos h5,if_pos h5]
   ·rw [if_neg h5,if_neg h5]
    by_cases e:x=v
    ·subst e;rw [if_pos rfl,if_pos ⟨hvl,by omega⟩,if_pos rfl]
    ·rw [if_neg e]
     by_cases h6:x<K.vars/\K.lev x<K.dep p.lo
     ·rw [if_pos h6,if_pos h6,if_neg e]
     ·rw [if_neg h6,if_neg h6]
  | @hi q p hq h2 hp hpt ih =>
   obtain ⟨t,ht,a,he⟩:=ih;obtain ⟨_,v,hp',_,hv,hvl,h3,h4,hd⟩:=hk.wf.node_at h2 (ArenaV.tk_iff.2 ⟨p,hp,hpt⟩)
   rw [hp] at hp';cases hp'
   have hvn:p.var.toNat=v:=by omega
   have hb:=hk.ord.below hk.wf h2 hp hpt;refine ⟨t,ht,K.mix (K.dep q) a (upd (fun _=>false) v true),fun y=>?_⟩
   have e1:K.den p.hi y=K.den p.hi (K.mix (K.dep p.hi) (fun _=>false) y):=KV.den_same hk.wf hk.ord _ _ _ _ h4 (Nat.le_refl _) fun x hx hdx=>by
    simp only [KV.mix];rw [if_neg (by omega)]
   rw [e1,<- KV.den_hi hk.wf hk.ord h2 hp hpt,he,<- mix_mix K (by omega)]
   congr 1
   funext x
   simp only [KV.mix,upd,hvn]
   by_cases h5:x<K.vars/\K.lev x<K.dep q
   ·rw [if_pos h5,if_pos h5]
   ·rw [if_neg h5,if_neg h5]
    by_cases e:x=v
    ·subst e;rw [if_pos rfl,if_pos ⟨hvl,by omega⟩,if_pos rfl]
    ·rw [if_neg e]
     by_cases h6:x<K.vars/\K.lev x<K.dep p.hi
     ·rw [if_pos h6,if_pos h6,if_neg e]
     ·rw [if_neg h6,if_neg h6]
 obtain ⟨t,ht,a,he⟩:=key hr;exact ⟨t,ht,K.dep r,a,he⟩
theorem KV.tab_flat {K:KV} (hk:K.Ok) (hu:K.Uni) (hn:K.vars<=16) {L:List TV} (hL:∀ t,t∈L->t.Ok/\t.n=K.vars) {r:Nat} (h2:2<=r) (ht:K.A.tk r=true) (hs:SubL K L (K.den r)):K.tab r∈flatT L K.order:=by
 obtain ⟨v,hv,_,hh,hno⟩:=hk.node_hangs hu h2 ht
 have e:(K.tab r).fn=K.den r:=funext fun y=>hk.tab_fn ht y
 exact flat_of hk.ord.pm hL (KV.tab_ok hn r).1 rfl (by rw [e];exact hs) hv (by rw [e];exact hh) (by rw [e];exact hno)
theorem RootsT.mem {K:KV} {L:List TV} (h:RootsT K L) (hk:K.Ok) (hu:K.Uni) (hn:K.vars<=16) {u:TV}:u∈flatT L K.order↔∃ r,2<=r/\K.A.tk r=true/\K.tab r=u:=by
 constructor
 ·intro hm
  obtain ⟨i,v,h1,a1,a2,⟨t,ht,a,he⟩,hh⟩:=(mem_flatT h.ok fun x hx=>hk.ord.pm.mem_order hx).1 hm;obtain ⟨f,tf,hf⟩:=h.lr t ht;obtain ⟨x,tx,hx⟩:=KV.sub_live hk i a _ f (Nat.le_refl _) tf
  have hd:∀ y,K.den x y=u.fn y:=fun y=>by rw [hx,hf,he,hk.ord.pm.mixO]
  refine ⟨x,?_,tx,hk.tab_eq hn tx a1 a2 hd⟩
  by_cases h2:2<=x
  ·exact h2
  ·exfalso
   obtain ⟨y,hy⟩:=hh;refine hy ?_;rw [<- hd,<- hd,K.den_const (by omega),K.den_const (by omega)]
 ·rintro ⟨r,h2,ht,rfl⟩
  exact KV.tab_flat hk hu hn h.ok h2 ht (h.sub hk (KV.live_reach hk.wf hk.pos hk.ord _ r h2 ht (Nat.le_refl _)))
theorem RootsT.used {K:KV} {L:List TV} (h:RootsT K L) (hk:K.Ok) (hu:K.Uni) (hn:K.vars<=16):K.A.used=(flatT L K.order).length+2:=by
 rw [<- hk.nodes_len];have nd:(K.nodes.map K.tab).Nodup:=List.pairwise_map.2 (List.Pairwise.imp_of_mem (fun {a b} ha hb hne e=>hne (hk.tab_inj hu (KV.mem_nodes.1 ha).2 (KV.mem_nodes.1 hb).2 e)) K.nodes_nodup)
 have e:(K.nodes.map K.tab).length=(flatT L K.order).length:=by
  refine Nat.le_antisymm (List.Nodup.length_le_of_subset nd fun u hm=>?_) (List.Nodup.length_le_of_subset (flatT_nodup h.ok fun x hx=>hk.ord.pm.mem_order hx) fun u hm=>?_)
  ·obtain ⟨r,hr,rfl⟩:=List.mem_map.1 hm
   obtain ⟨h2,ht⟩:=KV.mem_nodes.1 hr;exact (h.mem hk hu hn).2 ⟨r,h2,ht,rfl⟩
  ·obtain ⟨r,h2,ht,rfl⟩:=(h.mem hk hu hn).1 hm
   exact List.mem_map.2 ⟨r,KV.mem_nodes.2 ⟨h2,ht⟩,rfl⟩
 rw [List.length_map] at e;omega
def NoFitW (K0:KV) (S:((Nat->Bool)->Bool)->Prop):Prop :=
 ∃ (K:KV) (g:(Nat->Bool)->Bool),K.Ok/\K.Uni/\K0.Ext K/\(∀ x,K.A.tk x=true->K0.A.tk x=false->S (K.den x))/\K.A.used=K.A.places/\S g/\∀ x,K.A.tk x=true->¬ ∀ y,K.den x y=g y
theorem RootsT.nofit {K:KV} {L:List TV} (h:RootsT K L) (hk:K.Ok) (hn:K.vars<=16) {t:TV} (ht:t.Ok) (htn:t.n=K.vars) (hno:NoFitW K (K.SubN t.fn)):K.A.places<(flatT (L++[t]) K.order).length+2:=by
 obtain ⟨K1,g,k1,u1,ext,new,hus,hg,hx⟩:=hno
 have hL:∀ s,s∈L++[t]->s.Ok/\s.n=K.vars:=fun s hs=>by
  rcases List.mem_append.1 hs with hs | hs
  ·exact h.ok s hs
  ·simp at hs;subst hs;exact ⟨ht,htn⟩
 have hL1:∀ s,s∈L++[t]->s.Ok/\s.n=K1.vars:=fun s hs=>by rw [ext.vr];exact hL s hs
 have hn1:K1.vars<=16:=by rw [ext.vr];exact hn
 have sub1:∀ {g:(Nat->Bool)->Bool} {s:TV},K.SubN s.fn g->K1.SubN s.fn g:=fun {g s} ⟨l,a,he⟩=>⟨l,a,fun y=>by rw [he,ext.mix]⟩
 have hsub:∀ r,2<=r->K1.A.tk r=true->SubL K1 (L++[t]) (K1.den r):=fun r h2 htk=>by
  by_cases h0:K.A.tk r=true
  ·obtain ⟨s,hs,hh⟩:=h.sub hk (KV.live_reach hk.wf hk.pos hk.ord _ r h2 h0 (Nat.le_refl _))
   have e:K1.den r=K.den r:=funext fun y=>ext.den hk.wf y h0
   rw [e];exact ⟨s,by simp [hs],sub1 hh⟩
  ·exact ⟨t,by simp,sub1 (new r htk (by simpa using h0))⟩
 obtain ⟨l,a,he⟩:=hg
 have hlow:∀ x y:Nat->Bool,(∀ v,v<K1.vars->x v=y v)->g x=g y:=fun x y hxy=>by
  rw [he,he]
  refine TV.fn_same t fun v hv=>?_
  simp only [KV.mix]
  rw [htn,<- ext.vr] at hv;rw [hxy v hv]
 obtain ⟨u,hud⟩ : ∃ u:TV,u=mkT K1.vars fun x=>g fun v=>x.testBit v:=⟨_,rfl⟩
 have huf:u.fn=g:=by
  funext y
  rw [hud,mkT_fn]
  exact hlow _ _ fun v hv=>by rw [idx_bit];simp [hv]
 have huo:u.Ok:=by rw [hud];exact mkT_ok _ hn1
 have hun:u.n=K1.vars:=by rw [hud];rfl
 have hmem:u∈flatT (L++[t]) K1.order:=by
  rcases first_hang (K:=K1) g K1.vars with hc | ⟨v,hv,hh,hfree⟩
  ·exfalso
   have hconst:∀ y,g y=g fun _=>false:=fun y=>by
    have e1:=free_above k1.ord.pm (g:=g) K1.vars (Nat.le_refl _) hc (fun _=>false) y;rw [<- e1]
    exact hlow _ _ fun v hv=>by simp only [KV.mix];rw [if_pos ⟨hv,(k1.ord.pm.lo v hv).1⟩]
   cases hb:g fun _=>false with
   | true=>exact hx 1 k1.wf.ok.tk01.2 fun y=>by rw [hconst,hb,K1.den_const (by omega)];rfl
   | false=>exact hx 0 k1.wf.ok.tk01.1 fun y=>by rw [hconst,hb,K1.den_const (by omega)];rfl
  ·exact flat_of k1.ord.pm hL1 huo hun ⟨t,by simp,l,a,fun y=>by rw [huf,he,ext.mix]⟩ hv (by rw [huf];exact hh) (by rw [huf];exact hfree)
 have nd:(u::K1.nodes.map K1.tab).Nodup:=by
  rw [List.nodup_cons];refine ⟨fun hm=>?_,List.pairwise_map.2 (List.Pairwise.imp_of_mem (fun {a b} ha hb hne e=>hne (k1.tab_inj u1 (KV.mem_nodes.1 ha).2 (KV.mem_nodes.1 hb).2 e)) K1.nodes_nodup)⟩;obtain ⟨r,hr,e⟩:=List.mem_map.1 hm;obtain ⟨h2,htk⟩:=KV.mem_nodes.1 hr
  refine hx r htk fun y=>?_
  rw [<- huf,<- e,k1.tab_fn htk]
 have hle:=List.Nodup.length_le_of_subset nd (l₂:=flatT (L++[t]) K1.order) fun z hz=>by
  rcases List.mem_cons.1 hz with rfl | hz
  ·exact hmem
  ·obtain ⟨r,hr,rfl⟩:=List.mem_map.1 hz
   obtain ⟨h2,htk⟩:=KV.mem_nodes.1 hr;exact KV.tab_flat k1 u1 hn1 hL1 h2 htk (hsub r h2 htk)
 rw [List.length_cons,List.length_map,ext.od] at hle;have h5:=k1.nodes_len;have h6:=ext.pl;omega
end Go.Proofs.YtfkopmhpppeheaaGreat
namespace Go.Proofs.YtfkopmhpppeheaaGreat
open Go.RowKit Go.Maps Go.ChangeMaps Go.WideShapes
theorem ret_bool {a b:Bool} (h:a=b):Ending.returned (.bool a)=.returned (.bool b):=by rw [h]
theorem ret_int {k:IntKind} {a b:Int} (h:a=b):Ending.returned (.int k a)=.returned (.int k b):=by rw [h]
theorem run_append_src {P:Program} (w:World) (base:Nat) (t ty e:TypeId) (i:TypeInfo) (z:Value) (size bytes:Nat) (ht:P.underlying t=some (.slice e)) (hi:P.info? e=some i) (hz:i.zero=some z)
  (hsize:i.size=size) (hby:i.bytes=bytes) (hzs:z.cells.size=size) (hsz:0<size)
  (v:Value) (n:Nat) (xs:List Value) (hown:w.ownsRow base e size v n xs)
  (A:Option Addr) (m c:Nat) (news:List Value) (hA:A=none->m=0) (hl:news.length=m*size) (hnews:∀ ad,A=some ad->∀ j u,news[j]?=some u->w.cell? (ad.add j)=some u) (h1:∀ u∈news,u.oneCell'=true)
  (h63:n+m<=maxLen) (hbytes:(n+m)*bytes<=140737488355328) (hbase:base<=w.heap.size) :
  ∃ v' w',(Builtin.append_ #[t,t] ty #[v,.slice A m c]).run P w=.ok v' w'/\w'.ownsRow base e size v' (n+m) (xs++news)/\w.grownBy w' v.ownBlock/\(v'.ownBlock=v.ownBlock\/v'.ownBlock=some w.heap.size):=by
 cases A with
 | none =>
  obtain rfl:=hA rfl;have hn:news=[]:=List.eq_nil_of_length_eq_zero (by simpa using hl);subst hn;refine ⟨v,w,?_,by simpa using hown,World.grownBy.refl w _,.inl rfl⟩
  rcases hown.2 with ⟨rfl,rfl⟩ | ⟨g,cap,cur,rfl,_,_,hnc,_⟩
  ·simp [Builtin.append_,run_underlying ht,sizeOf,typeInfo,hi,Builtin.lenOf,Builtin.firstCells]
  ·simp [Builtin.append_,run_underlying ht,sizeOf,typeInfo,hi,Builtin.lenOf,Builtin.firstCells,hnc,storeCells]
 | some ad =>
  obtain ⟨v',w',hrun,h2,h3,_,h5⟩:=run_append_own_at (P:=P) w base t ty e i z size bytes ht hi hz hsize hby hzs hsz v n xs hown ad m c news hl (hnews ad rfl) h1 h63 hbytes hbase;exact ⟨v',w',hrun,h2,h3,h5⟩
theorem wp_append_src {P:Program} {w:World} {o:Oper} {a:Act} {K:Act->World->Prop} {Q:Exit->Act->World->Prop} (s x:Operand) (t:TypeId)
  (ho:o.op=.call { callee:=.builtin .append,args:=#[s,x],argTypes:=#[t,t] })
  (base:Nat) (e:TypeId) (i:TypeInfo) (z:Value) (size bytes:Nat) (ht:P.underlying t=some (.slice e)) (hi:P.info? e=some i) (hz:i.zero=some z)
  (hsize:i.size=size) (hby:i.bytes=bytes) (hzs:z.cells.size=size) (hsz:0<size)
  (v:Value) (n:Nat) (xs:List Value) (hs:a.eval s=v) (hown:w.ownsRow base e size v n xs)
  (A:Option Addr) (m c:Nat) (news:List Value) (hx:a.eval x=.slice A m c) (hA:A=none->m=0) (hl:news.length=m*size) (hnews:∀ ad,A=some ad->∀ j u,news[j]?=some u->w.cell? (ad.add j)=some u) (h1:∀ u∈news,u.oneCell'=true)
  (h63:n+m<=maxLen) (hbytes:(n+m)*bytes<=140737488355328) (hbase:base<=w.heap.size)
  (h:∀ v' w',w'.ownsRow base e size v' (n+m) (xs++news)->w.grownBy w' v.ownBlock->(v'.ownBlock=v.ownBlock\/v'.ownBlock=some w.heap.size)->K (a.put o.dst v') w'):o.wp P a w K Q:=by
 obtain ⟨v',w',hrun,h2,h3,h4⟩:=run_append_src (P:=P) w base t o.type e i z size bytes ht hi hz hsize hby hzs hsz v n xs hown A m c news hA hl hnews h1 h63 hbytes hbase;unfold Oper.wp execOp
 simp only [ho,resolve,invoke,builtin,Sem.run_bind,Sem.run_pure,Result.andThen_ok,List.map_toArray,List.map_cons,List.map_nil,hs,hx,hrun]
 exact h v' w' h2 h3 h4
theorem wpList_append_src {P:Program} {w:World} {ops:Array Oper} {rest:List Oper} {o:Oper} {a:Act} {Q:Exit->Act->World->Prop} (hgd:o.guard=none) (s x:Operand) (t:TypeId)
  (ho:o.op=.call { callee:=.builtin .append,args:=#[s,x],argTypes:=#[t,t] })
  (base:Nat) (e:TypeId) (i:TypeInfo) (z:Value) (size bytes:Nat) (ht:P.underlying t=some (.slice e)) (hi:P.info? e=some i) (hz:i.zero=some z)
  (hsize:i.size=size) (hby:i.bytes=bytes) (hzs:z.cells.size=size) (hsz:0<size)
  (v:Value) (n:Nat) (xs:List Value) (hs:a.eval s=v) (hown:w.ownsRow base e size v n xs)
  (A:Option Addr) (m c:Nat) (news:List Value) (hx:a.eval x=.slice A m c) (hA:A=none->m=0) (hl:news.length=m*size) (hnews:∀ ad,A=some ad->∀ j u,news[j]?=some u->w.cell? (ad.add j)=some u) (h1:∀ u∈news,u.oneCell'=true)
  (h63:n+m<=maxLen) (hbytes:(n+m)*bytes<=140737488355328) (hbase:base<=w.heap.size)
  (h:∀ v' w',w'.ownsRow base e size v' (n+m) (xs++news)->w.grownBy w' v.ownBlock->(v'.ownBlock=v.ownBlock\/v'.ownBlock=some w.heap.size)->wpList P ops Q rest (a.put o.dst v') w'):wpList P ops Q (o::rest) a w :=
 wpList_plain hgd fun _ hK=>wp_append_src s x t ho base e i z size bytes ht hi hz hsize hby hzs hsz v n xs hs hown A m c news hx hA hl hnews h1 h63 hbytes hbase fun v' w' h2 h3 h4=>hK _ _ (h v' w' h2 h3 h4)
theorem levF_len:∀ (o:List Nat) (c:List TV),(levT c o).flatten.length<=o.length*(2 ^ o.length*c.length)
 | [],c=>by simp [levT]
 | x::o,c=>by
  have ih:=levF_len o (givenT c x);have hg:=givenT_len c x;have hn:(nodesT c x).length<=c.length:=List.length_filter_le _ _
  show (nodesT c x::levT (givenT c x) o).flatten.length<=_
  rw [List.flatten_cons,List.length_append,List.length_cons,Nat.pow_succ,Nat.add_mul,Nat.one_mul]
  have h1:o.length*(2 ^ o.length*(givenT c x).length)<=o.length*(2 ^ o.length*2*c.length):=by
   refine Nat.mul_le_mul_left _ ?_
   rw [Nat.mul_assoc];exact Nat.mul_le_mul_left _ hg
  have h2:c.length<=2 ^ o.length*2*c.length:=by
   have:1<=2 ^ o.length*2:=by have:=Nat.two_pow_pos o.length;omega
   calc c.length=1*c.length:=by rw [Nat.one_mul]
    _<=_:=Nat.mul_le_mul_right _ this
  omega
theorem levF_len6 {o:List Nat} {c:List TV} (ho:o.length<=8) (hc:c.length<=4194304):(levT c o).flatten.length<=8589934592:=by
 have h1:=levF_len o c
 have h2:2 ^ o.length<=256:=by
  calc 2 ^ o.length<=2 ^ 8:=Nat.pow_le_pow_right (by omega) ho
   _=256:=rfl
 have h3:2 ^ o.length*c.length<=256*4194304:=Nat.mul_le_mul h2 hc;have h4:o.length*(2 ^ o.length*c.length)<=8*(256*4194304):=Nat.mul_le_mul ho h3;omega
theorem levF_lenS {o:List Nat} {c:List TV} (ho:o.length<=8) (hc:c.length<=66000):(levT c o).flatten.length<=135168000:=by
 have h1:=levF_len o c
 have h2:2 ^ o.length<=256:=by
  calc 2 ^ o.length<=2 ^ 8:=Nat.pow_le_pow_right (by omega) ho
   _=256:=rfl
 have h3:2 ^ o.length*c.length<=256*66000:=Nat.mul_le_mul h2 hc;have h4:o.length*(2 ^ o.length*c.length)<=8*(256*66000):=Nat.mul_le_mul ho h3;omega
theorem flat_take_succ {L:List (List TV)} {i:Nat} {l:List TV} (h:L[i]?=some l):(L.take (i+1)).flatten.length=(L.take i).flatten.length+l.length:=by
 rw [List.take_add_one,h];simp [List.flatten_append]
theorem flat_take_le (L:List (List TV)) (i:Nat):(L.take i).flatten.length<=L.flatten.length:=by
 have:L.flatten.length=(L.take i).flatten.length+(L.drop i).flatten.length:=by
  rw [<- List.length_append,<- List.flatten_append,List.take_append_drop]
 omega
theorem size5_spec (n0 n1:Nat) (Z:List Nat) (v vo:Value) (L:List TV) (o:List Nat) (n:Nat) (w:World) (h:TLs w n0 Z v L) (hZ:∀ k,k∈Z->k<w.heap.size) (hl:L.length<=4194304)
  (hn:∀ t,t∈L->t.n=n) (hn6:n<=8) (ho:w.ownsRow n1 3 1 vo o.length (flatN o)) (hol:o.length<=8) (hon:∀ x,x∈o->x<n) :
  Calls Tryz.prog 194 #[v,vo] w fun e w'=>e=.returned (.int .i64 ((flatT L o).length:Nat))/\Upd [] w w':=by
 have HLV:=Lib.hid (levels_spec n0 n1 Z v vo L o n w h hZ hl hn hn6 ho hol hon);have hbd:(flatT L o).length<=8589934592:=levF_len6 hol (Nat.le_trans (unlikeT_len L) hl)
 have hll:(levT (unlikeT L) o).length<=8:=by rw [levT_len];exact hol
 unfold flatT at hbd ⊢;generalize levT (unlikeT L) o=LL at *;obtain ⟨fa,fc,rfl,hfa⟩:=h.form;obtain ⟨oa,oc,rfl,hof⟩:=row_nil_len ho;clear h hZ hl hn hn6 ho hol hon hfa hof
 go_enter Tryz.func194,Tryz.ntmps194
 go_wp2_with fail;refine HLV.out.mono ?_;rintro e w1 hE;obtain ⟨cv,rfl,hC,hu1⟩:=hE.ex;obtain ⟨aa,ac,hav,hag⟩:=hC.form;subst hav;have HC:=Lib.hid (And.intro hC hu1);clear hC hu1 hE HLV;go_wp2_with fail
 go_loopg [5,12] LL.length (fun g s5 s12 wr=>∃ i:Nat,LL.length-i=g/\i<=LL.length/\s12=.int .i64 i/\s5=.int .i64 ((LL.take i).flatten.length:Nat)/\wr=w1)
 case atStart=>exact ⟨0,by omega,by omega,rfl,by simp,rfl⟩
 case round =>
  obtain ⟨i,rfl,hi,rfl,rfl,rfl⟩:=hrel
  by_cases hlt:i<LL.length
  ·obtain ⟨l,hl⟩ : ∃ l,LL[i]?=some l:=⟨_,List.getElem?_eq_getElem hlt⟩
   obtain ⟨ga,rfl⟩:=hag (by omega);obtain ⟨cl,x0,htl⟩:=HC.out.1.at_ hl;obtain ⟨la,lc,hcl,_⟩:=htl.form;subst hcl
   have hil:(i:Int)<(LL.length:Int):=by omega
   have HS:=Lib.hid (flat_take_succ hl);have hs2:=flat_take_le LL (i+1);rw [HS.out] at hs2
   have hb:(LL.take i).flatten.length+l.length<=8589934592:=by omega
   clear hs2 hl htl;generalize (LL.take i).flatten.length=S at *;go_wp2_with fail
   go_roundg (LL.length-(i+1))
   case measure=>omega
   case rel=>exact ⟨i+1,rfl,by omega,by simp,by rw [HS.out];simp,rfl⟩
  ·obtain rfl:i=LL.length:=by omega
   have hil:¬ ((LL.length:Int)<(LL.length:Int)):=by omega
   rw [List.take_length];go_wp2_with fail;go_ret;exact ⟨rfl,HC.out.2⟩
end Go.Proofs.YtfkopmhpppeheaaGreat
