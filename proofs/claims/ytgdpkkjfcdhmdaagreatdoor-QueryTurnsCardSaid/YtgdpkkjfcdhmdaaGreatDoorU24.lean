/- The case of the Query laws, opened. -/
import Derived.Test.YtgdpkkjfcdhmdaaGreatDoorS0
import Derived.Test.YtgdpkkjfcdhmdaaGreatDoorS6
import Derived.Test.YtgdpkkjfcdhmdaaGreatDoorU21
import Derived.Deep.Slices
namespace Go.Proofs.YtgdpkkjfcdhmdaaGreatDoor
open Go.ChangeShapes Go.WideShapes Go.ChangeAt Go.RowKit Go.Deep
set_option maxRecDepth 100000
theorem laidOut:laidOutB Tryz.prog=true:=by kernel_rfl
theorem spot_none{w:World}{a:Addr}{v:Value}(h:w.cell? a=some v):a.spot=none:=by
 unfold World.cell? at h
 split at h
 ·cases hs:a.spot with
  |none=>rfl
  |some x=>simp[hs] at h
 ·cases h
theorem list_of{α:Type}{R:Nat->α->Prop}(d:α):∀n,(∀i,i<n->∃x,R i x)->∃xs:List α,xs.length=n/\∀i,i<n->R i (xs.getD i d)
 |0,_=>⟨[],rfl,λ i hi=>by omega⟩
 |n+1,h=>by
  obtain⟨xs,hl,hx⟩:=list_of d n λ i hi=>h i (by omega)
  obtain⟨x,hr⟩:=h n (by omega);refine⟨xs++[x],by simp[hl],λ i hi=> ?_⟩;by_cases e:i=n
  ·rw[getD_last _ _ _ _ (by rw[hl];exact e),e];exact hr
  ·rw[getD_left _ _ _ _ (by rw[hl];omega)];exact hx i (by omega)
theorem one_of{α:Type}:∀{l:List α},l.length=1->∃a,l=[a]
 |[a],_=>⟨a,rfl⟩
theorem mem_getD{α:Type}(d:α)(xs:List α)(v:α)(h:v∈xs):∃i,i<xs.length/\xs.getD i d=v:=by
 obtain⟨i,hi,e⟩:=List.getElem_of_mem h;exact⟨i,hi,by rw[List.getD_eq_getElem?_getD,List.getElem?_eq_getElem hi];exact e⟩
theorem two_len{α:Type}:∀{l:List α},l.length=2->∃a b,l=[a,b]
 |[a,b],_=>⟨a,b,rfl⟩
theorem five_len{α:Type}:∀{l:List α},l.length=5->∃a b c d e,l=[a,b,c,d,e]
 |[a,b,c,d,e],_=>⟨a,b,c,d,e,rfl⟩
theorem seven_len{α:Type}:∀{l:List α},l.length=7->∃a b c d e f g,l=[a,b,c,d,e,f,g]
 |[a,b,c,d,e,f,g],_=>⟨a,b,c,d,e,f,g,rfl⟩
theorem field_in{fs:List Field}{ks:List (String×TypeId×Nat)}(h:fs.map (λ f=>(f.name,f.type,f.offset))=ks){j:Nat}{k:String×TypeId×Nat}(hk:ks[j]? =some k):∃f,fs[j]? =some f/\f.offset=k.2.2/\f.type=k.2.1:=by
 subst h;rw[List.getElem?_map] at hk;cases e:fs[j]? with
 |none=>rw[e] at hk;cases hk
 |some f=>rw[e] at hk;simp at hk;exact⟨f,rfl,by rw[<-hk],by rw[<-hk]⟩
theorem len22{α:Type}:∀{l:List α},l.length=22->∃c0 c1 c2 c3 c4 c5 c6 c7 c8 c9 c10 c11 c12 c13 c14 c15 c16 c17 c18 c19 c20 c21,l=[c0,c1,c2,c3,c4,c5,c6,c7,c8,c9,c10,c11,c12,c13,c14,c15,c16,c17,c18,c19,c20,c21]
 |[c0,c1,c2,c3,c4,c5,c6,c7,c8,c9,c10,c11,c12,c13,c14,c15,c16,c17,c18,c19,c20,c21],_=>⟨c0,c1,c2,c3,c4,c5,c6,c7,c8,c9,c10,c11,c12,c13,c14,c15,c16,c17,c18,c19,c20,c21,rfl⟩
theorem strc130:Tryz.prog.underlying 128=some (.struct (Tryz.prog.fieldsOf 128)):=by kernel_rfl
theorem fls130:((Tryz.prog.fieldsOf 128).toList.map λ f=>(f.name,f.type,f.offset))=[("Kind",5,0),("Op",5,1),("Num",46,2),("A",126,3),("B",126,4)]:=by kernel_rfl
theorem strc83:Tryz.prog.underlying 83=some (.struct (Tryz.prog.fieldsOf 83)):=by kernel_rfl
theorem fls83:((Tryz.prog.fieldsOf 83).toList.map λ f=>(f.name,f.type,f.offset))=[("N",3,0),("Term",3,1)]:=by kernel_rfl
theorem strc28:Tryz.prog.underlying 28=some (.struct (Tryz.prog.fieldsOf 28)):=by kernel_rfl
theorem fls28:((Tryz.prog.fieldsOf 28).toList.map λ f=>(f.name,f.type,f.offset))=[("Conds",24,0),("Status",5,1),("Steps",3,2),("Outs",25,3),("Rels",25,4),("Branches",26,5),("Reads",24,6)]:=by kernel_rfl
theorem strc30:Tryz.prog.underlying 30=some (.struct (Tryz.prog.fieldsOf 30)):=by kernel_rfl
theorem fls30:((Tryz.prog.fieldsOf 30).toList.map λ f=>(f.name,f.type,f.offset))=[("Width",3,0),("Nodes",22,1),("Levels",3,2),("Order",23,3),("Chans",24,4),("Sites",24,5),("Sensitive",4,6),("Level",3,7),("A",28,8),("B",28,15)]:=by kernel_rfl
theorem cells22:Tryz.prog.cellsOf 22=1:=by kernel_rfl
theorem cells23:Tryz.prog.cellsOf 23=1:=by kernel_rfl
theorem cells24:Tryz.prog.cellsOf 24=1:=by kernel_rfl
theorem cells25:Tryz.prog.cellsOf 25=1:=by kernel_rfl
theorem cells26:Tryz.prog.cellsOf 26=1:=by kernel_rfl
theorem cells28:Tryz.prog.cellsOf 28=7:=by kernel_rfl
theorem cells30:Tryz.prog.cellsOf 30=22:=by kernel_rfl
theorem cells46:Tryz.prog.cellsOf 46=1:=by kernel_rfl
theorem cells83:Tryz.prog.cellsOf 83=2:=by kernel_rfl
theorem cells120:Tryz.prog.cellsOf 113=2:=by kernel_rfl
theorem cells128:Tryz.prog.cellsOf 126=1:=by kernel_rfl
theorem cells130:Tryz.prog.cellsOf 128=5:=by kernel_rfl
theorem readable30:Tryz.prog.readableRec 30=true:=by kernel_rfl
theorem row30:30<Tryz.prog.types.size:=of_decide_eq_true (by kernel_rfl)
section
variable {H:Type} {enc:TypeId×Value->H} {W:World} {base:Nat}
theorem nums_of{t e:TypeId}{k:IntKind}{fuel:Nat}{cs:List Value}{x:DataW H×List MemPlace}(ht:Tryz.prog.underlying t=some (.slice e))(he:Tryz.prog.underlying e=some (.int k))(hC:Tryz.prog.cellsOf e=1)
  (h:DataW.trod enc Tryz.prog W 0 (λ _=>true) true fuel t cs=some x):
  ∃a len cap xs,cs=[.slice a len cap]/\xs.length=len/\(Lay.int k).At 0 W a xs/\(a=none->cap=0)/\len<=cap/\cap<=maxLen/\∀v∈xs,(Lit.int k v).wf=true:=by
 rcases open_slice ht h with⟨rfl,_⟩|⟨a,len,cap,m,n,D,Pl,rfl,_,hl,hm,hmm,_,hi⟩
 ·exact⟨none,0,0,[],rfl,rfl,Lay.At.nil,λ _=>rfl,by omega,by decide,λ v hv=>by simp at hv⟩
 ·simp only[if_true] at hmm;rw[hmm,hC] at hi;have hex:∀i,i<len->∃x:Int,W.cell? (a.add i)=some (.int k x)/\(Lit.int k x).wf=true:=λ i hlt=>by
   obtain⟨cs',hc,ht'⟩:=hi i (by omega);obtain⟨_,hcl,hat⟩:=World.cells?_some hc;obtain⟨c0,rfl⟩:=one_of hcl;obtain⟨x,hx,_,hw⟩:=DataW.trod_int he ht';simp only[List.cons.injEq,and_true] at hx;subst hx;have:=hat 0 (by decide);exact⟨x,by simpa[Addr.add] using this,hw⟩
  obtain⟨xs,hxl,hxs⟩:=list_of 0 len hex;refine⟨some a,len,cap,xs,rfl,hxl,λ i hlt=> ?_,λ h=>(by cases h),hl,hm,λ v hv=> ?_⟩
  ·rw[hxl] at hlt;have hsp:=spot_none (show W.cell? a=_ by simpa[Addr.add] using(hxs 0 (by omega)).1);obtain⟨b,o,sp⟩:=a;simp only at hsp;subst hsp;have h1:=(hxs i hlt).1;rw[add_at] at h1;refine⟨b,o,rfl,World.block_lt_of_cell? W _ h1,λ j hj=> ?_⟩;have hj0:j=0:=by have:j<1:=hj;omega
   subst hj0;show W.cell? ⟨b,o+i*1+0,none⟩=some (.int k (xs.getD i 0));rw[Nat.mul_one,Nat.add_zero];exact h1
  ·obtain⟨i,hlt,rfl⟩:=mem_getD 0 xs v hv;exact(hxs i (by omega)).2
theorem open_elems{α:Type}(L:Lay α)(d:α){G:α->Prop}{t e:TypeId}{fuel:Nat}{cs:List Value}{x:DataW H×List MemPlace}(ht:Tryz.prog.underlying t=some (.slice e))(hC:Tryz.prog.cellsOf e=L.sz)
  (hE:∀(fuel:Nat) (cs:List Value) (x:DataW H×List MemPlace),cs.length=L.sz->DataW.trod enc Tryz.prog W 0 (λ _=>true) true fuel e cs=some x->∃y,cs=L.f y/\G y)
  (h:DataW.trod enc Tryz.prog W 0 (λ _=>true) true fuel t cs=some x):
  ∃a len cap xs,cs=[.slice a len cap]/\xs.length=len/\L.At d W a xs/\(a=none->cap=0)/\len<=cap/\cap<=maxLen/\∀y∈xs,G y:=by
 rcases open_slice ht h with⟨rfl,_⟩|⟨a,len,cap,m,n,D,Pl,rfl,_,hl,hm,hmm,_,hi⟩
 ·exact⟨none,0,0,[],rfl,rfl,Lay.At.nil,λ _=>rfl,by omega,by decide,λ v hv=>by simp at hv⟩
 ·simp only[if_true] at hmm;rw[hmm,hC] at hi;have hex:∀i,i<len->∃y:α,(∀k,k<L.sz->W.cell? ((a.add (i*L.sz)).add k)=(L.f y)[k]?)/\G y:=λ i hlt=>by
   obtain⟨cs',hc,ht'⟩:=hi i (by omega);obtain⟨_,hcl,hat⟩:=World.cells?_some hc;obtain⟨y,rfl,hg⟩:=hE _ _ _ hcl ht';exact⟨y,hat,hg⟩
  obtain⟨xs,hxl,hxs⟩:=list_of d len hex;refine⟨some a,len,cap,xs,rfl,hxl,λ i hlt=> ?_,λ h=>(by cases h),hl,hm,λ v hv=> ?_⟩
  ·rw[hxl] at hlt;have hp:=L.pos;obtain⟨u,hu⟩:∃u,(L.f (xs.getD 0 d))[0]? =some u:=⟨_,List.getElem?_eq_getElem (by rw[L.len];exact hp)⟩
   have hsp:=spot_none (show W.cell? a=some u by have:=(hxs 0 (by omega)).1 0 hp;rw[hu] at this;simpa[Addr.add] using this);obtain⟨b,o,sp⟩:=a;simp only at hsp;subst hsp;have hr:=(hxs i hlt).1;obtain⟨u2,hu2⟩:∃u,(L.f (xs.getD i d))[0]? =some u:=⟨_,List.getElem?_eq_getElem (by rw[L.len];exact hp)⟩
   have hr0:=hr 0 hp;rw[add_at,add_at,hu2] at hr0;refine⟨b,o,rfl,World.block_lt_of_cell? W _ hr0,λ j hj=> ?_⟩;have:=hr j hj;rwa[add_at,add_at] at this
  ·obtain⟨i,hlt,rfl⟩:=mem_getD d xs v hv;exact(hxs i (by omega)).2
theorem get_field{e:TypeId}{cs:List Value}{ys:List (DataW H×List MemPlace)}{n:Nat}{ks:List (String×TypeId×Nat)}(hl:ys.length=(Tryz.prog.fieldsOf e).size)
  (hf:∀(i:Nat) (f:Field),(Tryz.prog.fieldsOf e)[i]? =some f->DataW.trod enc Tryz.prog W 0 (λ _=>true) true n f.type ((cs.drop f.offset).take (Tryz.prog.cellsOf f.type))=ys[i]?)
  (hfl:((Tryz.prog.fieldsOf e).toList.map λ f=>(f.name,f.type,f.offset))=ks)(i:Nat){k:String×TypeId×Nat}(hk:ks[i]? =some k):∃y,DataW.trod enc Tryz.prog W 0 (λ _=>true) true n k.2.1 ((cs.drop k.2.2).take (Tryz.prog.cellsOf k.2.1))=some y:=by
 obtain⟨f,e0,o0,t0⟩:=field_in hfl hk;rw[Array.getElem?_toList] at e0;have g:=hf i f e0;rw[o0,t0] at g;have hi:i<ys.length:=by rw[hl];exact(Array.getElem?_eq_some_iff.1 e0).1
 rw[List.getElem?_eq_getElem hi] at g;exact⟨_,g⟩
def RawOk(q:RawN):Prop:=q.2.1<256/\q.2.2.1<18446744073709551616/\q.2.2.2.1<65536/\q.2.2.2.2<65536
theorem raw_of{fuel:Nat}{cs:List Value}{x:DataW H×List MemPlace}(hl:cs.length=5)(h:DataW.trod enc Tryz.prog W 0 (λ _=>true) true fuel 128 cs=some x):∃y:RawN,cs=Lay.raw.f y/\RawOk y:=by
 obtain⟨c0,c1,c2,c3,c4,rfl⟩:=five_len hl;obtain⟨ys,n,_,_,_,hyl,hf⟩:=DataW.trod_struct strc130 h;obtain⟨y0,g0⟩:=get_field hyl hf fls130 0 rfl;obtain⟨y1,g1⟩:=get_field hyl hf fls130 1 rfl;obtain⟨y2,g2⟩:=get_field hyl hf fls130 2 rfl;obtain⟨y3,g3⟩:=get_field hyl hf fls130 3 rfl;obtain⟨y4,g4⟩:=get_field hyl hf fls130 4 rfl;simp only[cells5,cells46,cells128,List.drop_zero,List.take_succ_cons,List.take_zero,List.drop_succ_cons] at g0 g1 g2 g3 g4;obtain⟨x0,e0,_,w0⟩:=DataW.trod_int Tryz.underlying5 g0;obtain⟨x1,e1,_,w1⟩:=DataW.trod_int Tryz.underlying5 g1;obtain⟨x2,e2,_,w2⟩:=DataW.trod_int Tryz.underlying46 g2;obtain⟨x3,e3,_,w3⟩:=DataW.trod_int Tryz.underlying126 g3;obtain⟨x4,e4,_,w4⟩:=DataW.trod_int Tryz.underlying126 g4;simp only[List.cons.injEq,and_true] at e0 e1 e2 e3 e4;subst e0 e1 e2 e3 e4;have b0:=bounds_u8 w0;have b1:=bounds_u8 w1;have b2:=bounds_u64 w2;have b3:=bounds_u16 w3;have b4:=bounds_u16 w4;obtain⟨n0,rfl⟩:=Int.eq_ofNat_of_zero_le b0.1;obtain⟨n1,rfl⟩:=Int.eq_ofNat_of_zero_le b1.1;obtain⟨n2,rfl⟩:=Int.eq_ofNat_of_zero_le b2.1;obtain⟨n3,rfl⟩:=Int.eq_ofNat_of_zero_le b3.1;obtain⟨n4,rfl⟩:=Int.eq_ofNat_of_zero_le b4.1;exact⟨(n0,n1,n2,n3,n4),rfl,by show n1<256;omega,by show n2<18446744073709551616;omega,by show n3<65536;omega,by show n4<65536;omega⟩
theorem sev_of{fuel:Nat}{cs:List Value}{x:DataW H×List MemPlace}(hl:cs.length=2)(h:DataW.trod enc Tryz.prog W 0 (λ _=>true) true fuel 83 cs=some x):∃y:Int×Int,cs=Lay.sev.f y/\True:=by
 obtain⟨c0,c1,rfl⟩:=two_len hl;obtain⟨ys,n,_,_,_,hyl,hf⟩:=DataW.trod_struct strc83 h;obtain⟨y0,g0⟩:=get_field hyl hf fls83 0 rfl;obtain⟨y1,g1⟩:=get_field hyl hf fls83 1 rfl;simp only[cells3,List.drop_zero,List.take_succ_cons,List.take_zero,List.drop_succ_cons] at g0 g1;obtain⟨x0,e0,_⟩:=DataW.trod_int Tryz.underlying3 g0;obtain⟨x1,e1,_⟩:=DataW.trod_int Tryz.underlying3 g1;simp only[List.cons.injEq,and_true] at e0 e1;subst e0 e1;exact⟨(x0,x1),rfl,trivial⟩
theorem bool_of{fuel:Nat}{cs:List Value}{x:DataW H×List MemPlace}(_:cs.length=1)(h:DataW.trod enc Tryz.prog W 0 (λ _=>true) true fuel 4 cs=some x):∃y:Bool,cs=Lay.bool.f y/\True:=by
 obtain⟨b,rfl,_⟩:=DataW.trod_bool Tryz.underlying4 h;exact⟨b,rfl,trivial⟩
theorem path_of{fuel:Nat}{cs:List Value}{x:DataW H×List MemPlace}(hl:cs.length=7)(h:DataW.trod enc Tryz.prog W 0 (λ _=>true) true fuel 28 cs=some x):∃y:PathN,cs=Lay.path.f y/\y.Ok W:=by
 obtain⟨c0,c1,c2,c3,c4,c5,c6,rfl⟩:=seven_len hl;obtain⟨ys,n,_,_,_,hyl,hf⟩:=DataW.trod_struct strc28 h;obtain⟨y0,g0⟩:=get_field hyl hf fls28 0 rfl;obtain⟨y1,g1⟩:=get_field hyl hf fls28 1 rfl;obtain⟨y2,g2⟩:=get_field hyl hf fls28 2 rfl;obtain⟨y3,g3⟩:=get_field hyl hf fls28 3 rfl;obtain⟨y4,g4⟩:=get_field hyl hf fls28 4 rfl;obtain⟨y5,g5⟩:=get_field hyl hf fls28 5 rfl;obtain⟨y6,g6⟩:=get_field hyl hf fls28 6 rfl;simp only[cells24,cells5,cells3,cells25,cells26,List.drop_zero,List.take_succ_cons,List.take_zero,List.drop_succ_cons] at g0 g1 g2 g3 g4 g5 g6;obtain⟨a0,l0,k0,xs0,e0,h0,t0,z0,_⟩:=nums_of Tryz.underlying24 Tryz.underlying3 cells3 g0;obtain⟨x1,e1,_⟩:=DataW.trod_int Tryz.underlying5 g1;obtain⟨x2,e2,_⟩:=DataW.trod_int Tryz.underlying3 g2;obtain⟨a3,l3,k3,xs3,e3,h3,t3,_⟩:=open_elems Lay.sev (0,0) (G:=λ _=>True) Tryz.underlying25 cells83 (λ _ _ _ hl h=>sev_of hl h) g3;obtain⟨a4,l4,k4,xs4,e4,h4,t4,_⟩:=open_elems Lay.sev (0,0) (G:=λ _=>True) Tryz.underlying25 cells83 (λ _ _ _ hl h=>sev_of hl h) g4;obtain⟨a5,l5,k5,xs5,e5,h5,t5,z5,_⟩:=open_elems Lay.bool false (G:=λ _=>True) Tryz.underlying26 cells4 (λ _ _ _ hl h=>bool_of hl h) g5;obtain⟨a6,l6,k6,xs6,e6,h6,t6,z6,_⟩:=nums_of Tryz.underlying24 Tryz.underlying3 cells3 g6;simp only[List.cons.injEq,and_true] at e0 e1 e2 e3 e4 e5 e6;subst e0 e1 e2 e3 e4 e5 e6 h0 h3 h4 h5 h6;exact⟨⟨a0,k0,xs0,x1,x2,a3,k3,xs3,a4,k4,xs4,a5,k5,xs5,a6,k6,xs6⟩,rfl,t0,t3,t4,t5,t6,z5,z0,z6⟩
theorem pair_of{fuel:Nat}{cs:List Value}{x:DataW H×List MemPlace}(hl:cs.length=2)(h:DataW.trod enc Tryz.prog W 0 (λ _=>true) true fuel 113 cs=some x):∃y:Int×Int,cs=(Lay.sev.f y)/\True:=by
 obtain⟨xs,m',_,_,_,hxl,hel⟩:=DataW.trod_array Tryz.underlying113 h;obtain⟨c0,c1,rfl⟩:=two_len hl;obtain⟨y0,y1,rfl⟩:=two_len hxl;have e0:=hel 0 (by decide);have e1:=hel 1 (by decide);rw[cells3] at e0 e1;simp only[Nat.zero_mul,Nat.one_mul,List.drop_zero,List.take_succ_cons,List.take_zero,List.drop_succ_cons,List.getElem?_cons_zero,List.getElem?_cons_succ] at e0 e1;obtain⟨x,hx,_⟩:=DataW.trod_int Tryz.underlying3 e0;obtain⟨y,hy,_⟩:=DataW.trod_int Tryz.underlying3 e1;simp only[List.cons.injEq,and_true] at hx hy;subst hx hy;exact⟨(x,y),rfl,trivial⟩
theorem case_of{fuel:Nat}{cs:List Value}{x:DataW H×List MemPlace}(hl:cs.length=22)(h:DataW.trod enc Tryz.prog W 0 (λ _=>true) true fuel 30 cs=some x):∃y:CaseN,cs=y.l/\y.Ok W:=by
 obtain⟨c0,c1,c2,c3,c4,c5,c6,c7,c8,c9,c10,c11,c12,c13,c14,c15,c16,c17,c18,c19,c20,c21,rfl⟩:=len22 hl;obtain⟨ys,n,_,_,_,hyl,hf⟩:=DataW.trod_struct strc30 h;obtain⟨y0,g0⟩:=get_field hyl hf fls30 0 rfl;obtain⟨y1,g1⟩:=get_field hyl hf fls30 1 rfl;obtain⟨y2,g2⟩:=get_field hyl hf fls30 2 rfl;obtain⟨y3,g3⟩:=get_field hyl hf fls30 3 rfl;obtain⟨y4,g4⟩:=get_field hyl hf fls30 4 rfl;obtain⟨y5,g5⟩:=get_field hyl hf fls30 5 rfl;obtain⟨y6,g6⟩:=get_field hyl hf fls30 6 rfl;obtain⟨y7,g7⟩:=get_field hyl hf fls30 7 rfl;obtain⟨y8,g8⟩:=get_field hyl hf fls30 8 rfl;obtain⟨y9,g9⟩:=get_field hyl hf fls30 9 rfl;simp only[cells3,cells4,cells22,cells23,cells24,cells28,List.drop_zero,List.take_succ_cons,List.take_zero,List.take_nil,List.drop_succ_cons] at g0 g1 g2 g3 g4 g5 g6 g7 g8 g9;obtain⟨x0,e0,_⟩:=DataW.trod_int Tryz.underlying3 g0;obtain⟨a1,l1,k1,xs1,e1,h1,t1,_,_,_,w1⟩:=open_elems Lay.raw default (G:=RawOk) Tryz.underlying22 cells130 (λ _ _ _ hl h=>raw_of hl h) g1;obtain⟨x2,e2,_⟩:=DataW.trod_int Tryz.underlying3 g2;obtain⟨a3,l3,k3,xs3,e3,h3,t3,_⟩:=open_elems Lay.sev (0,0) (G:=λ _=>True) Tryz.underlying23 cells120 (λ _ _ _ hl h=>pair_of hl h) g3;obtain⟨a4,l4,k4,xs4,e4,h4,t4,z4,_⟩:=nums_of Tryz.underlying24 Tryz.underlying3 cells3 g4;obtain⟨a5,l5,k5,xs5,e5,h5,t5,z5,_⟩:=nums_of Tryz.underlying24 Tryz.underlying3 cells3 g5;obtain⟨x6,e6,_⟩:=DataW.trod_bool Tryz.underlying4 g6;obtain⟨x7,e7,_⟩:=DataW.trod_int Tryz.underlying3 g7;obtain⟨p8,e8,o8⟩:=path_of rfl g8;obtain⟨p9,e9,o9⟩:=path_of rfl g9;simp only[List.cons.injEq,and_true] at e0 e1 e2 e3 e4 e5 e6 e7;subst e0 e1 e2 e3 e4 e5 e6 e7 h1 h3 h4 h5;refine⟨⟨x0,a1,k1,xs1,x2,a3,k3,xs3,a4,k4,xs4,a5,k5,xs5,x6,x7,p8,p9⟩,?_,⟨t1,w1,(λ i hi=>t3.sev hi),t4,z4,t5,z5,o8,o9⟩⟩;show _=[_,_,_,_,_,_,_,_]++Lay.path.f p8++Lay.path.f p9;rw[<-e8,<-e9]
 rfl
theorem open_case{v:Value}{d:DataW H}{p:List MemPlace}(hv:Value.okWide Tryz.prog W .any base 30 v)(h:DataW.Trod enc Tryz.prog W 0 (λ _=>true) true 30 v d p):
  ∃x:CaseN,v=x.v/\x.Ok W:=by
 obtain⟨cs,rfl,hs⟩:=okWide_struct strc30 hv;obtain⟨fuel,hf⟩:=h;rw[cells30] at hs;obtain⟨y,e,hy⟩:=case_of (cs:=cs.toList) (by simpa using hs) hf;exact⟨y,by show Value.agg cs= .agg ⟨y.l⟩;rw[<-e],hy⟩
end
end Go.Proofs.YtgdpkkjfcdhmdaaGreatDoor
