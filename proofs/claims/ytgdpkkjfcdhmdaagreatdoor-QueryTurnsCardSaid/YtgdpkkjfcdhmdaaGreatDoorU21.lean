/- Walk: Make (the objects of a case). -/
import Derived.Test.YtgdpkkjfcdhmdaaGreatDoorS0
import Derived.Test.YtgdpkkjfcdhmdaaGreatDoorU18
import Derived.Test.YtgdpkkjfcdhmdaaGreatDoorS21
import Derived.Test.YtgdpkkjfcdhmdaaGreatDoorS24
namespace Go.Proofs.YtgdpkkjfcdhmdaaGreatDoor
open Go.RowKit
theorem sideOk_ref{n:Nat}{xs ys:List Int}(h1:1<=xs.length)(h2:xs.length<=32)(h3:ys.length<=32):sideOk n xs ys=(mayB n 0 xs&&mayB n 0 ys):=by
 unfold sideOk mayB;simp only[h1,h2,h3,decide_true,Bool.true_and,List.all_append,List.all_cons];cases hn:isB n 0 with
 |true=>simp
 |false=>
  match xs,h1 with
  |x::xs,_=>
   have:isB n x=false:=by
    simp[isB] at hn⊢;omega
   simp[this]
set_option maxRecDepth 100000 in
set_option maxHeartbeats 4000000 in
theorem new21(lb n:Nat)(up:Nat->Nat)(ca:Option Addr)(cc:Nat)(xs:List Int)(sa:Option Addr)(sc:Nat)(ys:List Int)(sens:Bool)(w:World)(hL:RefL w lb n up)
  (hx:(Lay.int .i64).At 0 w ca xs)(hy:(Lay.int .i64).At 0 w sa ys)(hxl:xs.length<=1000)(hyl:ys.length<=1000):
  Calls Tryz.prog 20 #[.pointer (some ⟨lb,0,none⟩),.slice ca xs.length cc,.slice sa ys.length sc,.bool sens] w (NewSP w lb n xs ys sens):=by
 by_cases hb:1<=xs.length/\xs.length<=32/\ys.length<=32
 ·obtain⟨h1,h2,h3⟩:=hb;have d1:decide ((xs.length:Int)<1)=false:=by simp;omega
  have d2:decide ((32:Int)<(xs.length:Int))=false:=by simp;omega
  have d3:decide ((32:Int)<(ys.length:Int))=false:=by simp;omega
  have HX:=Z hx;have HY:=Z hy;have HSO:=Z (sideOk_ref (n:=n) h1 h2 h3);have HK1:=Z (known_any lb n up 0 ca xs.length cc xs w hL rfl hx (by omega));have HK2:Hid (∀w',Same w w'->Calls Tryz.prog 46 #[.pointer (some ⟨lb,0,none⟩),.int .i64 0,.slice sa ys.length sc] w' λ e w''=>e= .returned (.bool (mayB n 0 ys))/\Same w' w''):=Z λ w' hs=>known_any lb n up 0 sa ys.length sc ys w' (hL.same hs) rfl (hy.same hs) (by omega)
  clear hx hy hL h1 h2 h3 hxl hyl;cases hm1:mayB n 0 xs with
  |false=>
   rw[hm1] at HK1 HSO;clear hm1;go_enter Tryz.func20,Tryz.ntmps20
   go_wp2_with(go_at_call 46;refine HK1.o.mono ?_;rintro e w1 ⟨rfl,hs1⟩;have HS1:=Z hs1;clear hs1)
   go_ret2
   exact⟨HS1.o.below _,.inl ⟨by rw[HSO.o];rfl,rfl⟩⟩
  |true=>
   rw[hm1] at HK1 HSO;clear hm1;cases hm2:mayB n 0 ys with
   |false=>
    rw[hm2] at HK2 HSO;clear hm2;go_enter Tryz.func20,Tryz.ntmps20
    go_wp2_with(first|(go_at_call 46;refine(HK2.o _ HS1.o).mono ?_;rintro e w2 ⟨rfl,hs2⟩;have HS2:=Z (HS1.o.trans hs2);clear hs2)|(go_at_call 46;refine HK1.o.mono ?_;rintro e w1 ⟨rfl,hs1⟩;have HS1:=Z hs1;clear hs1))
    go_ret2
    exact⟨HS2.o.below _,.inl ⟨by rw[HSO.o];rfl,rfl⟩⟩
   |true=>
    rw[hm2] at HK2 HSO;clear hm2;go_enter Tryz.func20,Tryz.ntmps20
    go_wp2_with(first|(go_at_call 46;refine(HK2.o _ HS1.o).mono ?_;rintro e w2 ⟨rfl,hs2⟩;have HS2:=Z (HS1.o.trans hs2);clear hs2)|(go_at_call 46;refine HK1.o.mono ?_;rintro e w1 ⟨rfl,hs1⟩;have HS1:=Z hs1;clear hs1))
    go_ret2
    have HB:=(HS2.o.below w.heap.size).alloc (HS2.o.below w.heap.size).size (.cells #[.pointer (some ⟨lb,0,none⟩),.slice ca xs.length cc,.slice sa ys.length sc,.bool sens] 95);refine⟨HB,.inr ⟨by rw[HSO.o];rfl,_,ca,cc,sa,sc,rfl,⟨?_,?_,?_,HX.o.below HB,HY.o.below HB⟩,?_⟩⟩<;>(rw[World.cell?_alloc_new];rfl)
 ·have HR:=Z (sideOk_len (n:=n) hb);clear hx hy hL;generalize xs.length=l1 at*;generalize ys.length=l2 at*;by_cases c1:l1<1
  ·have d1:decide ((l1:Int)<1)=true:=by simp;omega
   clear hb;go_enter Tryz.func20,Tryz.ntmps20
   go_wp2_with fail
   go_ret2
   exact⟨Below.refl _ _,.inl ⟨HR.o,rfl⟩⟩
  ·have d1:decide ((l1:Int)<1)=false:=by simp;omega
   by_cases c2:32<l1
   ·have d2:decide ((32:Int)<(l1:Int))=true:=by simp;omega
    clear hb;go_enter Tryz.func20,Tryz.ntmps20
    go_wp2_with fail
    go_ret2
    exact⟨Below.refl _ _,.inl ⟨HR.o,rfl⟩⟩
   ·have d2:decide ((32:Int)<(l1:Int))=false:=by simp;omega
    have d3:decide ((32:Int)<(l2:Int))=true:=by simp;omega
    clear hb;go_enter Tryz.func20,Tryz.ntmps20
    go_wp2_with fail
    go_ret2
    exact⟨Below.refl _ _,.inl ⟨HR.o,rfl⟩⟩
def LatsPost2(w:World)(ps:List (Int×Int))(n:Int)(e:Ending)(w':World):Prop:=
 Below w.heap.size w w'/\(e= .returned (.tuple #[.pointer none,.pointer none,.bool true])\/
  ∃(b xb N:Nat) (up dn:Nat->Nat),e= .returned (.tuple #[.pointer (some ⟨b,0,none⟩),.pointer (some ⟨xb,0,none⟩),.bool true])/\(N:Int)=n/\N<=32/\b<w'.heap.size/\LatC w' b N up dn/\RefL w' xb N up/\IsLat N ps up dn/\(newE n ps).1=0)
set_option maxHeartbeats 400000 in
theorem lats_any2(n:Int)(a:Option Addr)(len cap:Nat)(ps:List (Int×Int))(w:World)(hT:Tab w)(h0:3<w.heap.size)(hlen:ps.length=len)(hp:PairsAt w a ps):
  Calls Tryz.prog 18 #[.int .i64 n,.slice a len cap] w (LatsPost2 w ps n):=by
 have HN:=Z (new_all n a len cap w ps hlen hp hT h0);have HRN:=Z (λ W (hb:Below w.heap.size w W)=>rnew_all n a len cap W ps hlen (hp.below hb));clear hT h0 hlen hp;by_cases hz:(newE n ps).1=0
 ·have HZ:=Z hz;have hn:1<=n/\n<=32/\newE n ps=newL n.toNat ps:=by
   unfold newE at hz⊢;by_cases h1:n<1\/32<n
   ·rw[if_pos h1] at hz;cases hz
   ·rw[if_neg h1] at hz⊢;by_cases h2:1024<ps.length
    ·rw[if_pos h2] at hz;cases hz
    ·rw[if_neg h2];exact⟨by omega,by omega,rfl⟩
  obtain⟨hn1,hn2,he⟩:=hn;obtain⟨N,rfl⟩:=Int.eq_ofNat_of_zero_le (show 0<=n by omega);have hI:=(newL_zero (n:=N) (ps:=ps) (by omega) (by rw[Int.toNat_natCast] at he;rw[<-he];exact hz)).2;have HI:Hid (IsLat N ps (newE N ps).2.1 (newE N ps).2.2):=by(show IsLat _ _ _ _);rw[he,Int.toNat_natCast];exact hI
  clear hz he hI;go_enter Tryz.func18,Tryz.ntmps18
  go_wp2_with fail
  refine HN.o.mono ?_;rintro e w1 ⟨_,h2,hb1⟩;obtain⟨rfl,hL,hbs⟩:=h2 HZ.o;rw[Int.toNat_natCast] at hL;have HLt:=Z hL;clear hL h2;generalize w.heap.size+1=b at*
  go_wp2_with fail
  refine(HRN.o _ hb1).mono ?_;rintro e w2 ⟨_,h3,hb2⟩;obtain⟨rfl,hxs,g,rcap,r,M,hRC,hM⟩:=h3 HZ.o;rw[Int.toNat_natCast] at hRC hM;have HRL:=Z (RefL.of hRC HI.o hM);have HL2:=Z (HLt.o.below hb2 hbs);have hbs2:b<w2.heap.size:=Nat.lt_of_lt_of_le hbs hb2.size;have B2:=hb1.trans (hb2.mono hb1.size);clear h3 hRC hM HLt HRN HN hb1 hb2
  go_wp2_with fail
  exact bodyPost_ret (v:=.tuple #[.pointer (some ⟨b,0,none⟩),.pointer (some ⟨w1.heap.size,0,none⟩),.bool true]) (by simp[results,Tryz.results18,go_sem]) rfl ⟨B2,Or.inr ⟨b,_,N,_,_,rfl,rfl,by omega,hbs2,HL2.o,HRL.o,HI.o,HZ.o⟩⟩
 ·have HZ:=Z hz;clear hz;go_enter Tryz.func18,Tryz.ntmps18
  go_wp2_with fail
  refine HN.o.mono ?_;rintro e w1 ⟨h1,_,hb1⟩;rw[h1 HZ.o]
  go_wp2_with fail
  refine(HRN.o _ hb1).mono ?_;rintro e w2 ⟨h2,_,hb2⟩;rw[h2 HZ.o];have B2:=hb1.trans (hb2.mono hb1.size);generalize(newE n ps).1=c at*;have hcc:((c:Int)==c)=true:=by simp
  clear h1 h2 HRN HN hb1 hb2
  go_wp2_with fail
  exact bodyPost_ret (v:=.tuple #[.pointer none,.pointer none,.bool true]) (by simp[results,Tryz.results18,go_sem]) rfl ⟨B2,Or.inl rfl⟩
end Go.Proofs.YtgdpkkjfcdhmdaaGreatDoor
namespace Go.Proofs.YtgdpkkjfcdhmdaaGreatDoor
open Go Go.RowKit
structure CaseN where
 Wd:Int
 na:Option Addr
 nc:Nat
 qs:List RawN
 lv:Int
 oa:Option Addr
 oc:Nat
 ord:List (Int×Int)
 ca:Option Addr
 cc:Nat
 xs:List Int
 sa:Option Addr
 sc:Nat
 ys:List Int
 sens:Bool
 level:Int
 p:PathN
 q:PathN
def PathN.l(p:PathN):List Value:=[.slice p.ca p.cs.length p.cc,.int .u8 p.st,.int .i64 p.sp,.slice p.oa p.os.length p.oc,.slice p.ra p.rs.length p.rc,.slice p.ba p.bs.length p.bc,.slice p.ia p.is.length p.ic]
def CaseN.l(x:CaseN):List Value:=[.int .i64 x.Wd,.slice x.na x.qs.length x.nc,.int .i64 x.lv,.slice x.oa x.ord.length x.oc,.slice x.ca x.xs.length x.cc,.slice x.sa x.ys.length x.sc,.bool x.sens,.int .i64 x.level]++x.p.l++x.q.l
def CaseN.v(x:CaseN):Value:=.agg ⟨x.l⟩
structure CaseN.Ok (w:World) (x:CaseN):Prop where
 raw:Lay.raw.At default w x.na x.qs
 rb:∀q∈x.qs,q.2.1<256/\q.2.2.1<18446744073709551616/\q.2.2.2.1<65536/\q.2.2.2.2<65536
 ord:PairsAt w x.oa x.ord
 cx:(Lay.int .i64).At 0 w x.ca x.xs
 cn:x.ca=none->x.cc=0
 sy:(Lay.int .i64).At 0 w x.sa x.ys
 sn:x.sa=none->x.sc=0
 p:x.p.Ok w
 q:x.q.Ok w
def PGx(w:World)(B g W:Nat)(L:List Nd):Prop:=∃A mb nv,PG w B A g mb nv W L
theorem PGx.set2{w:World}{B g W:Nat}{L:List Nd}(h:PGx w B g W L){b:Nat}(hb:b<B)(i j:Nat)(u v:Value):PGx ((w.setCell ⟨b,i,none⟩ u).setCell ⟨b,j,none⟩ v) B g W L:=by
 obtain⟨A,mb,nv,h⟩:=h;refine⟨A,mb,nv,h.frame (by simp[World.setCell]) λ k hk=> ?_⟩;have hne:k≠b:=by
  rcases hk with hk|hk
  ·have:=(h.lo k hk).1;omega
  ·have:=(h.ar k hk).1;omega
 rw[Below.heap_setCell _ _ _ k hne,Below.heap_setCell _ _ _ k hne]
def cut(w:World)(B:Nat):World:={w with heap:=w.heap.take B}
theorem cut_size{w:World}{B:Nat}(h:B<=w.heap.size):(cut w B).heap.size=B:=by simp[cut];omega
theorem cut_get{w:World}{B k:Nat}(h:k<B):(cut w B).heap[k]? =w.heap[k]? :=by
 show(w.heap.take B)[k]? =_;simp only[Array.take_eq_extract];rw[Array.getElem?_extract]
 split
 ·rw[Nat.zero_add]
 ·rw[Array.getElem?_eq_none (by omega)]
theorem cut_cell{w:World}{B:Nat}{p:Addr}(h:p.block<B):(cut w B).cell? p=w.cell? p:=World.cell?_of_block (cut_get h)
theorem cut_below{w:World}{B:Nat}(h:B<=w.heap.size):Below (cut w B).heap.size (cut w B) w:=by
 refine⟨rfl,rfl,rfl,?_,λ k hk=> ?_⟩
 ·rw[cut_size h];exact h
 ·rw[cut_size h] at hk;exact(cut_get hk).symm
theorem Below.cut{w w':World}{B:Nat}(h:Below w.heap.size w w')(hB:w.heap.size<=B)(hB2:B<=w'.heap.size):Below w.heap.size w (cut w' B):=
 ⟨h.os,h.tape,h.output,by rw[cut_size hB2];exact hB,λ k hk=>(cut_get (Nat.lt_of_lt_of_le hk hB)).trans (h.block k hk)⟩
theorem CaseN.Ok.below{w w':World}{x:CaseN}(h:x.Ok w)(hb:Below w.heap.size w w'):x.Ok w':=
 ⟨h.raw.below hb,h.rb,PairsAt.below h.ord hb,h.cx.below hb,h.cn,h.sy.below hb,h.sn,h.p.below hb,h.q.below hb⟩
def GrW(w0 w':World)(x:CaseN)(sb lb rb g:Nat)(ca1:Option Addr)(cc1:Nat)(sa1:Option Addr)(sc1 N W:Nat)(up dn:Nat->Nat)(L:List Nd):Prop:=
 ∃(u:World) (B:Nat),Below u.heap.size u w'/\u.heap.size<=B/\SideAt u sb lb ca1 cc1 x.xs sa1 sc1 x.ys/\LatC u lb N up dn/\PGx w' B g W L/\B<=w'.heap.size/\L.Nodup/\1<=W/\W<=64/\sideOk N x.xs x.ys=true/\w0.heap.size<=u.heap.size/\x.Ok u/\u.cell? ⟨sb,3,none⟩=some (.bool x.sens)/\w'.cell? ⟨rb,3,none⟩=some (.bool x.sens)/\(N:Int)=x.lv/\IsLat N x.ord up dn/\(newE x.lv x.ord).1=0
def MadeP(w0 w':World)(x:CaseN)(v0 v1 v2 v3:Option Addr):Prop:=
 ∃sb lb rb xb g r N W:Nat,∃(ca1:Option Addr) (cc1:Nat) (sa1:Option Addr) (sc1:Nat) (ca2:Option Addr) (cc2:Nat) (sa2:Option Addr) (sc2:Nat) (up dn:Nat->Nat) (L:List Nd),
  v0=some ⟨sb,0,none⟩/\v1=some ⟨rb,0,none⟩/\v2=some ⟨g,0,none⟩/\v3=some ⟨r,0,none⟩/\SideAt w' sb lb ca1 cc1 x.xs sa1 sc1 x.ys/\LatC w' lb N up dn/\SideAt w' rb xb ca2 cc2 x.xs sa2 sc2 x.ys/\RefL w' xb N up/\
  RV w' g W L/\RV w' r W L/\VOk L/\L.length<=100/\x.xs.length<=32/\x.p.short/\x.q.short/\GrW w0 w' x sb lb rb g ca1 cc1 sa1 sc1 N W up dn L
def MakeP(w:World)(x:CaseN)(e:Ending)(w':World):Prop:=
 ∃(fits:Bool) (v0 v1 v2 v3:Option Addr),e= .returned (.tuple #[.agg #[.pointer v0,.pointer v1,.pointer v2,.pointer v3],.bool fits,.bool true])/\Below w.heap.size w w'/\(fits=true->MadeP w w' x v0 v1 v2 v3)
theorem short_yes(w:World)(p:PathN)(h:p.short):Calls Tryz.prog 17 #[p.v] w λ e w'=>e= .returned (.bool true)/\Below w.heap.size w w':=
 (short28 w p).mono λ e w' ⟨⟨g,h1,h2⟩,h3⟩=>⟨by rw[h1,h2.2 h],h3⟩
theorem short_no(w:World)(p:PathN)(h:¬p.short):Calls Tryz.prog 17 #[p.v] w λ e w'=>e= .returned (.bool false)/\Below w.heap.size w w':=
 (short28 w p).mono λ e w' ⟨⟨g,h1,h2⟩,h3⟩=>⟨by cases g with|false=>exact h1|true=>exact absurd (h2.1 rfl) h,h3⟩
abbrev ptrs(v0 v1 v2 v3:Option Addr):Obj:=.cells #[.pointer v0,.pointer v1,.pointer v2,.pointer v3] 37
theorem ptr_cells{w:World}{b:Nat}{v0 v1 v2 v3:Option Addr}(h:w.heap[b]? =some (.cells #[.pointer v0,.pointer v1,.pointer v2,.pointer v3] 37 (0,0))):
  w.cell? ⟨b,0,none⟩=some (.pointer v0)/\w.cell? ⟨b,1,none⟩=some (.pointer v1)/\w.cell? ⟨b,2,none⟩=some (.pointer v2)/\w.cell? ⟨b,3,none⟩=some (.pointer v3)/\w.frozen? ⟨b,0,none⟩=false/\w.frozen? ⟨b,1,none⟩=false/\w.frozen? ⟨b,2,none⟩=false/\w.frozen? ⟨b,3,none⟩=false:=by
 refine⟨?_,?_,?_,?_,?_,?_,?_,?_⟩<;>simp[World.cell?,World.frozen?,h]
theorem ptr_again{w:World}{b:Nat}{v0 v1 v2 v3:Option Addr}(h:w.heap[b]? =some (.cells #[.pointer v0,.pointer v1,.pointer v2,.pointer v3] 37 (0,0))):
  (((w.setCell ⟨b,0,none⟩ (.pointer v0)).setCell ⟨b,1,none⟩ (.pointer v1)).setCell ⟨b,2,none⟩ (.pointer v2)).setCell ⟨b,3,none⟩ (.pointer v3)=w:=by
 have hlt:b<w.heap.size:=(Array.getElem?_eq_some_iff.1 h).1;have hg:w.heap[b]= .cells #[.pointer v0,.pointer v1,.pointer v2,.pointer v3] 37 (0,0):=by
  rw[Array.getElem?_eq_getElem hlt] at h;injection h
 cases w
 simp only[World.setCell] at*
 congr 1
 apply Array.ext_getElem?;intro i;simp only[Array.getElem?_modify];by_cases e:b=i
 ·subst e;simp[h]
 ·simp[e]
theorem ptr_not{w:World}{b:Nat}{v0 v1 v2 v3:Option Addr}(h:w.heap[b]? =some (.cells #[.pointer v0,.pointer v1,.pointer v2,.pointer v3] 37 (0,0))){o:Nat}{v:Value}(hv:w.cell? ⟨b,o,none⟩=some v):∃a,v= .pointer a:=by
 simp only[World.cell?,h] at hv;rcases o with _|_|_|_|o
 ·exact⟨_,by simpa using hv.symm⟩
 ·exact⟨_,by simpa using hv.symm⟩
 ·exact⟨_,by simpa using hv.symm⟩
 ·exact⟨_,by simpa using hv.symm⟩
 ·simp at hv
theorem ptr_set0{w:World}{b:Nat}{v0 v1 v2 v3:Option Addr}(a:Option Addr)(h:w.heap[b]? =some (.cells #[.pointer v0,.pointer v1,.pointer v2,.pointer v3] 37 (0,0))):(w.setCell ⟨b,0,none⟩ (.pointer a)).heap[b]? =some (.cells #[.pointer a,.pointer v1,.pointer v2,.pointer v3] 37 (0,0)):=by
 simp[World.setCell,Array.getElem?_modify,h]
theorem ptr_set1{w:World}{b:Nat}{v0 v1 v2 v3:Option Addr}(a:Option Addr)(h:w.heap[b]? =some (.cells #[.pointer v0,.pointer v1,.pointer v2,.pointer v3] 37 (0,0))):(w.setCell ⟨b,1,none⟩ (.pointer a)).heap[b]? =some (.cells #[.pointer v0,.pointer a,.pointer v2,.pointer v3] 37 (0,0)):=by
 simp[World.setCell,Array.getElem?_modify,h]
theorem ptr_set2{w:World}{b:Nat}{v0 v1 v2 v3:Option Addr}(a:Option Addr)(h:w.heap[b]? =some (.cells #[.pointer v0,.pointer v1,.pointer v2,.pointer v3] 37 (0,0))):(w.setCell ⟨b,2,none⟩ (.pointer a)).heap[b]? =some (.cells #[.pointer v0,.pointer v1,.pointer a,.pointer v3] 37 (0,0)):=by
 simp[World.setCell,Array.getElem?_modify,h]
theorem ptr_set3{w:World}{b:Nat}{v0 v1 v2 v3:Option Addr}(a:Option Addr)(h:w.heap[b]? =some (.cells #[.pointer v0,.pointer v1,.pointer v2,.pointer v3] 37 (0,0))):(w.setCell ⟨b,3,none⟩ (.pointer a)).heap[b]? =some (.cells #[.pointer v0,.pointer v1,.pointer v2,.pointer a] 37 (0,0)):=by
 simp[World.setCell,Array.getElem?_modify,h]
structure Kept (b:Nat) (w w':World):Prop where
 sz:w.heap.size<=w'.heap.size
 c:∀p v,w.cell? p=some v->(p.block≠b\/∀a,v≠ .pointer a)->w'.cell? p=some v
theorem Kept.trans{b:Nat}{w w' w'':World}(h:Kept b w w')(k:Kept b w' w''):Kept b w w'':=⟨Nat.le_trans h.sz k.sz,λ p v h1 h2=>k.c p v (h.c p v h1 h2) h2⟩
theorem Below.kept{b:Nat}{w w':World}(h:Below w.heap.size w w'):Kept b w w':=⟨h.size,λ p _ h1 _=>(h.cell (p:=p) (World.block_lt_of_cell? w _ h1)).trans h1⟩
theorem Kept.set{w:World}{b:Nat}{v0 v1 v2 v3:Option Addr}(h:w.heap[b]? =some (.cells #[.pointer v0,.pointer v1,.pointer v2,.pointer v3] 37 (0,0)))(o:Nat)(a:Option Addr):Kept b w (w.setCell ⟨b,o,none⟩ (.pointer a)):=by
 refine⟨by simp[World.setCell],λ p v h1 h2=> ?_⟩;have e:p.block≠b:=by
  rcases h2 with h2|h2
  ·exact h2
  ·intro e;obtain⟨pb,po,ps⟩:=p;obtain rfl:pb=b:=e;cases ps with
   |none=>obtain⟨x,hx⟩:=ptr_not h h1;exact h2 x hx
   |some s=>simp[World.cell?,h] at h1
 rw[World.cell?_setCell_other]
 ·exact h1
 ·intro e';exact e (by rw[<-e'])
theorem Kept.ints{b:Nat}{w w':World}{a:Option Addr}{xs:List Int}(k:Kept b w w')(h:(Lay.int .i64).At 0 w a xs):(Lay.int .i64).At 0 w' a xs:=λ i hi=>by
 obtain⟨b,o,e,h0,h1⟩:=h i hi;refine⟨b,o,e,Nat.lt_of_lt_of_le h0 k.sz,λ j hj=> ?_⟩;obtain rfl:j=0:=by simp[Lay.int] at hj;exact hj
 exact k.c _ (.int .i64 (xs.getD i 0)) (h1 0 hj) (.inr λ a h=>by cases h)
theorem Kept.lat{b':Nat}{w w':World}{b n:Nat}{up dn:Nat->Nat}(k:Kept b' w w')(h:LatC w b n up dn):LatC w' b n up dn:=
 ⟨k.c _ _ h.hn (.inr λ a h=>by cases h),λ i hi=>k.c _ _ (h.hup i hi) (.inr λ a h=>by cases h),λ i hi=>k.c _ _ (h.hdn i hi) (.inr λ a h=>by cases h),h.bup,h.bdn,h.n32⟩
theorem Kept.ref{b':Nat}{w w':World}{xb n:Nat}{up:Nat->Nat}(k:Kept b' w w')(h:RefL w xb n up):RefL w' xb n up:=by
 obtain⟨g,cap,r,M,h1,h2⟩:=h;exact⟨g,cap,r,M,⟨k.c _ _ h1.top (.inr λ a h=>by cases h),λ i hi=>k.c _ _ (h1.row i hi) (.inr λ a h=>by cases h),λ i j hi hj=>k.c _ _ (h1.bit i j hi hj) (.inr λ a h=>by cases h),h1.n32⟩,h2⟩
theorem Kept.side{b:Nat}{w w':World}{sb lb:Nat}{ca:Option Addr}{cc:Nat}{xs:List Int}{sa:Option Addr}{sc:Nat}{ys:List Int}{v0 v1 v2 v3:Option Addr}(k:Kept b w w')(hb:w.heap[b]? =some (.cells #[.pointer v0,.pointer v1,.pointer v2,.pointer v3] 37 (0,0)))(h:SideAt w sb lb ca cc xs sa sc ys):SideAt w' sb lb ca cc xs sa sc ys:=by
 have hne:sb≠b:=by
  rintro rfl;obtain⟨a,ha⟩:=ptr_not hb h.c1;cases ha
 exact⟨k.c _ _ h.l (.inl hne),k.c _ _ h.c1 (.inl hne),k.c _ _ h.c2 (.inl hne),k.ints h.x,k.ints h.y⟩
theorem Kept.rv{b:Nat}{w w':World}{r W:Nat}{L:List Nd}(k:Kept b w w')(h:RV w r W L):RV w' r W L:=by
 obtain⟨a,cap,h1,h2⟩:=h.nodes;refine⟨Nat.lt_of_lt_of_le h.low k.sz,k.c _ _ h.c0 (.inr λ a h=>by cases h),⟨a,cap,k.c _ _ h1 (.inr λ a h=>by cases h),λ i hi=> ?_⟩,h.ok⟩;obtain⟨b,ha,hc,e,hlt,y0,y1,y2,hat,hno⟩:=h2 i hi;exact⟨b,ha,hc,e,Nat.lt_of_lt_of_le hlt k.sz,k.c _ _ y0 (.inr λ a h=>by cases h),k.c _ _ y1 (.inr λ a h=>by cases h),k.c _ _ y2 (.inr λ a h=>by cases h),k.ints hat,hno⟩
theorem Kept.cut{b:Nat}{w w':World}(k:Kept b w w'):Kept b w (cut w' w.heap.size):=
 ⟨by rw[cut_size k.sz];exact Nat.le_refl _,λ p v h1 h2=>(cut_cell (World.block_lt_of_cell? w _ h1)).trans (k.c p v h1 h2)⟩
theorem nodup_asks{n:Nd}{L:List Nd}(h:L.Nodup):(askL n L).Nodup:=by
 unfold askL
 split
 ·exact h
 ·rename_i hn;rw[List.nodup_append];exact⟨h,by simp,λ a ha b hb=>by
   have e:b=n:=by simpa using hb
   intro e2;exact hn (by rw[<-e,<-e2];exact ha)⟩
theorem bldL_nodup(W:Nat)(qs:List RawN):(bldL W qs).Nodup:=by
 rw[<-List.reverse_reverse qs]
 induction qs.reverse with
 |nil=>exact List.nodup_nil
 |cons q qs ih=>
  rw[List.reverse_cons,bldL_snoc];exact nodup_asks ih
theorem Box.kept{w w':World}{b c:Nat}{l:List Value}(h:Box w b l)(k:Kept c w w')(hne:b≠c):Box w' b l:=λ i v e=>k.c _ _ (h i v e) (.inl hne)
theorem two_boxes(w:World)(l:List Value){w2:World}(e:w2=(w.alloc (.cells l.toArray 30)).alloc (.cells #[.pointer none,.pointer none,.pointer none,.pointer none] 37)):
  Hid (Below w.heap.size w w2)/\Hid (w2.heap.size=w.heap.size+2)/\Hid (w2.heap[w.heap.size+1]? =some (.cells #[.pointer none,.pointer none,.pointer none,.pointer none] 37 (0,0)))/\Hid (Box w2 w.heap.size l):=by
 obtain⟨h1,h2,h3,_⟩:=two_cells w l [.pointer none,.pointer none,.pointer none,.pointer none] 30 37 e;refine⟨h1,h2,Z ?_,h3⟩;subst e;have:=heap_alloc_new (w.alloc (.cells l.toArray 30)) (ptrs none none none none);simpa using this
end Go.Proofs.YtgdpkkjfcdhmdaaGreatDoor
