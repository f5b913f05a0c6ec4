/- What the frames of this seat's proofs share: the laid variables as the rows list them; a world for the witnesses. -/
import Derived.Test.YtgdpkkjfcdhmdaaGreatDoorS0
import Derived.Test.YtgdpkkjfcdhmdaaGreatDoorCards
import Derived.Test.YtgdpkkjfcdhmdaaGreatDoorTie
import Derived.Test.YtgdpkkjfcdhmdaaGreatDoorS5
import Derived.WalkKit
import Derived.ProofKit
import Derived.OpenShut
import Derived.Deep.DeepHandedRow
import Derived.Lib.LaidTab
import Derived.Below
import Derived.ChangeSame
import Derived.Carry
import Derived.WideKeyElems3
import Derived.LaidMore
namespace Go.Proofs.YtgdpkkjfcdhmdaaGreatDoor
open Go.ChangeShapes Go.WideShapes Go.ChangeAt Go.RowKit
set_option maxRecDepth 100000
theorem post_low{H:Type}{enc:TypeId×Value->H}{f:Func}{s:ChangeSpec}{W W':World}{args:Array Value}{b:Bool}{ds:List (DataW H)}{places:List MemPlace}
  (hvs:s.vars=[])(hfn:s.fn H (ds++[])={results:=[.lit (.bool true)],args:=ds})(hrt:f.resultTypes=#[4])(hb1:b=true)
  (hW:DataW.Whole enc Tryz.prog f.params.toList s.vars false W args.toList ds [] places)
  (hargs:∀sp:Nat->Bool,(∀p∈places,sp p.block=true)->DataW.TrodAll enc Tryz.prog W' 0 sp true f.params.toList args.toList ds places)
  (hb:Below W.heap.size W W'):s.post enc Tryz.prog f false true false false W args (.bool b) W':=by
 subst hb1;have hlow:∀p∈places,p.block<W.heap.size:=hW.lt;have hold:∀p∈places,(λ b=>decide (b<W.heap.size)) p.block=true:=λ p hp=>decide_eq_true (hlow p hp)
 have hres:∀(b:Nat) (sp:Nat->Bool) (hd:Bool),DataW.TrodAll enc Tryz.prog W' b sp hd f.resultTypes.toList ((Value.bool true).resultList f.resultTypes.size) (s.fn H (ds++[])).results []:=λ _ _ _=>by
  rw[hfn,hrt];exact trodAll_cons_mk (shut_bool Tryz.underlying4 _) trodAll_mk0
 have hvars:∀sp:Nat->Bool,DataW.TrodVars enc Tryz.prog W' sp s.vars (s.fn H (ds++[])).vars []:=λ _=>by rw[hfn,hvs];rfl
 have harg':∀sp:Nat->Bool,(∀p∈places,sp p.block=true)->DataW.TrodAll enc Tryz.prog W' 0 sp true f.params.toList args.toList (s.fn H (ds++[])).args places:=λ sp hsp=>by rw[hfn];exact hargs sp hsp
 refine⟨ds,[],places,[],places,[],hW,hres _ _ _,harg' _ hold,hvars _,World.keptBut_mono (λ p hp=>⟨hp,Or.inr (Or.inl hp)⟩) (hb.frame (·∈places)),λ _=> ?_⟩;obtain⟨_,_,_,_,_,hz,hn⟩:=hW;refine⟨?_,_,_,([]++places)++[],⟨[]++places,[],trodAll_append (harg' _ (λ _ _=>rfl)) (hres _ _ _),hvars _,rfl,λ b off hp=> ?_,λ ha=>absurd ha (by decide)⟩,λ p hp _=>by simpa using hp⟩
 ·exact ok_one hrt rfl (okWide_bool_mk Tryz.underlying4 _)
 ·have hin:MemPlace.cell b off∈places:=by simpa using hp
  rw[hb.frozen (hlow _ hin)];exact hz b off hin
theorem own:ownKnob Tryz.prog.godebug=none:=by kernel_rfl
theorem gSteps:Tryz.prog.globalNamed "weephole/explore.steps"=some 1:=by kernel_rfl
theorem gStepsType:(Tryz.prog.globals[1]?).map (·.type)=some 199:=by kernel_rfl
theorem gShapes:Tryz.prog.globalNamed "weephole/flat.shapes"=some 3:=by kernel_rfl
theorem gShapesType:(Tryz.prog.globals[3]?).map (·.type)=some 276:=by kernel_rfl
theorem cells274:Tryz.prog.cellsOf 275=4:=by kernel_rfl
theorem gComp:Tryz.prog.globalNamed "weephole/query.compare"=some 0:=by kernel_rfl
theorem gCompType:(Tryz.prog.globals[0]?).map (·.type)=some 86:=by kernel_rfl
theorem gBits:Tryz.prog.globalNamed "math/bits.deBruijn32tab"=some 2:=by kernel_rfl
theorem gBitsType:(Tryz.prog.globals[2]?).map (·.type)=some 241:=by kernel_rfl
theorem cells85:Tryz.prog.cellsOf 85=1:=by kernel_rfl
theorem cells86:Tryz.prog.cellsOf 86=2:=by kernel_rfl
theorem cells5:Tryz.prog.cellsOf 5=1:=by kernel_rfl
theorem cells4:Tryz.prog.cellsOf 4=1:=by kernel_rfl
theorem cells3:Tryz.prog.cellsOf 3=1:=by kernel_rfl
abbrev laidL:List (String×DataW Unit):=[("math/bits.deBruijn32tab",Rows.laid_math_bits_deBruijn32tab),("weephole/flat.shapes",Rows.laid_weephole_flat_shapes),("weephole/explore.steps",Rows.laid_weephole_explore_steps),("weephole/query.compare",Rows.laid_weephole_query_compare)]
abbrev dataL:List (String×DataW Unit):=[("math/bits.deBruijn32tab",Rows.laid_math_bits_deBruijn32tab),("weephole/flat.shapes",Rows.laid_weephole_flat_shapes)]
abbrev funcL:List (String×DataW Unit):=[("weephole/explore.steps",Rows.laid_weephole_explore_steps),("weephole/query.compare",Rows.laid_weephole_query_compare)]
def innerD:DataW Unit->DataW Unit
 | .iface _ d=>d
 |_=>.nil
def stepsD:DataW Unit:=innerD Rows.laid_weephole_explore_steps
def compD:DataW Unit:=innerD Rows.laid_weephole_query_compare
theorem laid_split{W:World}(h:laidMetH Tryz.prog laidL W):laidMet Tryz.prog dataL W/\funcsAt Tryz.prog W "weephole/explore.steps" stepsD/\funcsAt Tryz.prog W "weephole/query.compare" compD:=by
 have h1:laidMet Tryz.prog dataL W/\handlesMet Tryz.prog funcL W:=h;exact⟨h1.1,h1.2 _ (List.mem_cons_self ..),h1.2 _ (List.mem_cons_of_mem _ (List.mem_singleton.2 rfl))⟩
def valD:DataW Unit->Value
 | .lit (.bool b)=>.bool b
 | .lit (.int k n)=>.int k n
 |_=>undef
def partsD:DataW Unit->List (DataW Unit)
 | .agg l=>l
 |_=>[]
def shapeD(i j:Nat):DataW Unit:=(partsD ((partsD Rows.laid_weephole_flat_shapes).getD i .nil)).getD j .nil
theorem shps_eq:Cr.shps=(List.range 40).map λ k=>valD (shapeD (k/4) (k%4)):=by kernel_rfl
theorem getD_of{α:Type}{d x:α}{l:List α}{i:Nat}(h:l[i]? =some x):l.getD i d=x:=by rw[List.getD_eq_getElem?_getD,h];rfl
theorem shape_cells{W:World}{fuel:Nat}{cs:List Value}{p:List MemPlace}(h:DataW.trod (λ _=>()) Tryz.prog W 0 (λ _=>true) false fuel 276 cs=some (Rows.laid_weephole_flat_shapes,p)):
  ∀i j,i<10->j<4->cs[i*4+j]? =some (valD (shapeD i j)):=by
 intro i j hi hj;obtain⟨xs,m,_,hx,_,hxl,hel⟩:=DataW.trod_array Tryz.underlying276 h;have hxs:partsD Rows.laid_weephole_flat_shapes=xs.map (·.1):=by
  have:=congrArg Prod.fst hx;simp only at this;rw[this];rfl
 have he:=hel i hi;rw[cells274] at he;cases hy:xs[i]? with
 |none=>
  rw[List.getElem?_eq_none_iff] at hy;omega
 |some y=>
  rw[hy] at he;have hyi:(partsD Rows.laid_weephole_flat_shapes).getD i .nil=y.1:=getD_of (by rw[hxs,List.getElem?_map,hy];rfl);obtain⟨zs,n,_,hz,_,hzl,hfl⟩:=DataW.trod_struct Tryz.underlying275 he;have hzs:partsD y.1=zs.map (·.1):=by rw[hz];rfl
  have fin:∀(c:List Value) (z:DataW Unit×List MemPlace) (v:Value),zs[j]? =some z->((cs.drop (i*4)).take 4).drop j=c->c.take 1=[v]->z.1= .lit (match v with| .bool b=>.bool b| .int k n=>.int k n|_=>.bool false)->(∃b,v= .bool b)\/(∃k n,v= .int k n)->cs[i*4+j]? =some (valD (shapeD i j)):=by
   intro c z v hzj hc hcv hzv hv;have h1:cs[i*4+j]? =some v:=by
    have:=congrArg (·[0]?) hcv;rw[<-hc] at this;simp only[List.getElem?_cons_zero] at this;rw[List.getElem?_take_of_lt (by decide),List.getElem?_drop,List.getElem?_take_of_lt (by omega),List.getElem?_drop] at this;exact this
   have h2:shapeD i j=z.1:=by
    unfold shapeD;rw[hyi];exact getD_of (by rw[hzs,List.getElem?_map,hzj];rfl)
   rw[h1,h2,hzv];rcases hv with⟨b,rfl⟩|⟨k,n,rfl⟩<;>rfl
  have hj4:j=0\/j=1\/j=2\/j=3:=by omega
  rcases hj4 with rfl|rfl|rfl|rfl
  ·have:=hfl 0 _ rfl;change DataW.trod _ _ _ _ _ _ n 4 ((((cs.drop (i*4)).take 4).drop 0).take (Tryz.prog.cellsOf 4))=_ at this
   rw[cells4] at this;cases hzj:zs[0]? with
   |none=>rw[List.getElem?_eq_none_iff] at hzj;simp at hzl;omega
   |some z=>
    rw[hzj] at this;obtain⟨b,hb,hzb⟩:=DataW.trod_bool Tryz.underlying4 this;exact fin _ z _ hzj rfl hb (by rw[hzb]) (.inl ⟨b,rfl⟩)
  ·have:=hfl 1 _ rfl;change DataW.trod _ _ _ _ _ _ n 4 ((((cs.drop (i*4)).take 4).drop 1).take (Tryz.prog.cellsOf 4))=_ at this
   rw[cells4] at this;cases hzj:zs[1]? with
   |none=>rw[List.getElem?_eq_none_iff] at hzj;simp at hzl;omega
   |some z=>
    rw[hzj] at this;obtain⟨b,hb,hzb⟩:=DataW.trod_bool Tryz.underlying4 this;exact fin _ z _ hzj rfl hb (by rw[hzb]) (.inl ⟨b,rfl⟩)
  ·have:=hfl 2 _ rfl;change DataW.trod _ _ _ _ _ _ n 4 ((((cs.drop (i*4)).take 4).drop 2).take (Tryz.prog.cellsOf 4))=_ at this
   rw[cells4] at this;cases hzj:zs[2]? with
   |none=>rw[List.getElem?_eq_none_iff] at hzj;simp at hzl;omega
   |some z=>
    rw[hzj] at this;obtain⟨b,hb,hzb⟩:=DataW.trod_bool Tryz.underlying4 this;exact fin _ z _ hzj rfl hb (by rw[hzb]) (.inl ⟨b,rfl⟩)
  ·have:=hfl 3 _ rfl;change DataW.trod _ _ _ _ _ _ n 3 ((((cs.drop (i*4)).take 4).drop 3).take (Tryz.prog.cellsOf 3))=_ at this
   rw[cells3] at this;cases hzj:zs[3]? with
   |none=>rw[List.getElem?_eq_none_iff] at hzj;simp at hzl;omega
   |some z=>
    rw[hzj] at this;obtain⟨k,hb,hzb,_⟩:=DataW.trod_int Tryz.underlying3 this;exact fin _ z _ hzj rfl hb (by rw[hzb]) (.inr ⟨_,k,rfl⟩)
def entD:DataW (List UInt8)->List (Lit×DataW (List UInt8))
 | .map l=>l
 |_=>[]
noncomputable def fnOf(s:List UInt8):List Nat:=(List.range Tryz.prog.funcs.size).filter λ f=>(Tryz.prog.funcs[f]?).any (·.name.toUTF8.data.toList==s)
noncomputable def decE:Lit×DataW (List UInt8)->Value×Value
 |(.int k n,.held s)=>(.int k n,.func (.func ((fnOf s).headD 0)) #[] #[])
 |_=>(undef,undef)
noncomputable def okE:Lit×DataW (List UInt8)->Bool
 |(.int .u8 _,.held (b::r))=>(fnOf (b::r)).length==1
 |_=>false
theorem steps_ok:(entD stepsD.funcsOut).all okE=true:=by kernel_rfl
theorem steps_dec:(entD stepsD.funcsOut).map decE=Cr.stp0:=by kernel_rfl
theorem steps_map:stepsD.funcsOut= .map (entD stepsD.funcsOut):=by kernel_rfl
theorem dbr_eq:Cr.dbr=(List.range 32).map λ k=>valD ((partsD Rows.laid_math_bits_deBruijn32tab).getD k .nil):=by kernel_rfl
theorem bits_cells{W:World}{fuel:Nat}{cs:List Value}{p:List MemPlace}(h:DataW.trod (λ _=>()) Tryz.prog W 0 (λ _=>true) false fuel 241 cs=some (Rows.laid_math_bits_deBruijn32tab,p)):
  ∀k,k<32->cs[k]? =some (valD ((partsD Rows.laid_math_bits_deBruijn32tab).getD k .nil)):=by
 intro k hk;obtain⟨xs,m,_,hx,_,hxl,hel⟩:=DataW.trod_array Tryz.underlying241 h;have hxs:partsD Rows.laid_math_bits_deBruijn32tab=xs.map (·.1):=by
  have:=congrArg Prod.fst hx;simp only at this;rw[this];rfl
 have he:=hel k hk;rw[cells5,Nat.mul_one] at he;cases hy:xs[k]? with
 |none=>
  rw[List.getElem?_eq_none_iff] at hy;omega
 |some y=>
  rw[hy] at he;have hyi:(partsD Rows.laid_math_bits_deBruijn32tab).getD k .nil=y.1:=getD_of (by rw[hxs,List.getElem?_map,hy];rfl);obtain⟨b,hb,hzb,_⟩:=DataW.trod_int Tryz.underlying5 he;have h1:cs[k]? =some (.int .u8 b):=by
   have:=congrArg (·[0]?) hb;simp only[List.getElem?_cons_zero] at this;rw[List.getElem?_take_of_lt (by decide),List.getElem?_drop] at this;exact this
  rw[h1,hyi,hzb]
  rfl
def partsH:DataW (List UInt8)->List (DataW (List UInt8))
 | .agg l=>l
 |_=>[]
noncomputable def decF:DataW (List UInt8)->Value
 | .held s=>.func (.func ((fnOf s).headD 0)) #[] #[]
 |_=>undef
noncomputable def okF:DataW (List UInt8)->Bool
 | .held (b::r)=>(fnOf (b::r)).length==1
 |_=>false
theorem comp_ok1:(partsH compD.funcsOut).all okF=true:=by kernel_rfl
theorem comp_dec:(partsH compD.funcsOut).map decF=Cr.cmps:=by kernel_rfl
theorem comp_agg:compD.funcsOut= .agg (partsH compD.funcsOut):=by kernel_rfl
theorem comp_cells{W:World}{fuel:Nat}{cs:List Value}{p:List MemPlace}(h:DataW.trod (funcToken Tryz.prog) Tryz.prog W 0 (λ _=>true) true fuel 86 cs=some (compD.funcsOut,p)):
  ∀k,k<2->cs[k]? =Cr.cmps[k]? :=by
 intro k hk;rw[comp_agg] at h;obtain⟨xs,m,_,hx,hlen,hxl,hel⟩:=DataW.trod_array Tryz.underlying86 h;have hxs:partsH compD.funcsOut=xs.map (·.1):=by
  have:=congrArg Prod.fst hx;simp only at this;injection this
 have he:=hel k hk;rw[cells85,Nat.mul_one] at he;rw[cells86] at hlen;have hkx:k<xs.length:=by omega
 have hkc:k<cs.length:=by omega
 have hc1:(cs.drop k).take 1=[cs[k]]:=by
  rw[List.drop_eq_getElem_cons hkc];rfl
 rw[hc1,List.getElem?_eq_getElem hkx] at he;have hin:xs[k].1∈partsH compD.funcsOut:=by rw[hxs];exact List.mem_map_of_mem (List.getElem_mem hkx)
 have hok:=List.all_eq_true.1 comp_ok1 _ hin;have hdk:Cr.cmps[k]? =some (decF xs[k].1):=by
  rw[<-comp_dec,List.getElem?_map,hxs,List.getElem?_map,List.getElem?_eq_getElem hkx];rfl
 rw[hdk,List.getElem?_eq_getElem hkc]
 revert he hok
 generalize xs[k]=y;intro he hok;obtain⟨d,q⟩:=y;simp only at hok⊢;unfold okF at hok
 split at hok
 ·rename_i bb rr;have hone:fnOf (bb::rr)=[(fnOf (bb::rr)).headD 0]:=by
   have:=beq_iff_eq.1 hok
   match hf:fnOf (bb::rr),this with
   |[a],_=>rfl
  rw[func_of_trod Tryz.underlying85 hone he]
  rfl
 ·cases hok
theorem laid_of{W:World}(h:laidMetH Tryz.prog laidL W):Cr.Laid W:=by
 obtain⟨h1,h2,h3⟩:=laid_split h;obtain⟨_,⟨gB,tB,csB,fuelB,pB,qB,hgB,htB,hvarB,hdB,⟨gS,tS,csS,fuelS,pS,qS,hgS,htS,hvarS,hdS,_,_⟩,_⟩,_⟩:=h1;refine⟨?_,?_,?_,?_⟩
 ·obtain⟨g,t,cs,fuel,p,hg,ht,hvar,hd⟩:=h3;obtain rfl:=Option.some.inj (gComp.symm.trans hg);obtain rfl:=Option.some.inj (gCompType.symm.trans ht);simp only[World.var?,hg,Option.bind_some] at hvar
  split at hvar
  ·rename_i c e f he;obtain rfl:=Option.some.inj hvar;exact⟨c,e,f,he,λ k hk=>by have:=comp_cells hd k hk;rwa[Array.getElem?_toList] at this⟩
  ·cases hvar
 ·obtain⟨g,t,cs,fuel,p,hg,ht,hvar,hd⟩:=h2;obtain rfl:=Option.some.inj (gSteps.symm.trans hg);obtain rfl:=Option.some.inj (gStepsType.symm.trans ht);rw[steps_map] at hd;have hb0:∃c e f,W.heap[1]? =some (.cells c e f)/\c=cs:=by
   simp only[World.var?,hg,Option.bind_some] at hvar
   split at hvar
   ·rename_i c e f he;exact⟨c,e,f,he,Option.some.inj hvar⟩
   ·cases hvar
  obtain⟨c,e,f,hb0,rfl⟩:=hb0;rcases WideElems.open_map Tryz.underlying199 hd with⟨_,hx⟩|⟨b,es,clock,n,_,hcs,hbm,_,fit,hx⟩
  ·cases hx
  ·have hent:entD stepsD.funcsOut=(es.toList.map (WideElems.rg Tryz.prog 5 (WideElems.elemAt (funcToken Tryz.prog) Tryz.prog W 0 (λ _=>true) true n 198))).foldr DataW.insert []:=by
    have:=congrArg Prod.fst hx;simp only at this;injection this
   have hperm:=sorted_perm (es.toList.map (WideElems.rg Tryz.prog 5 (WideElems.elemAt (funcToken Tryz.prog) Tryz.prog W 0 (λ _=>true) true n 198)));rw[<-hent] at hperm;have hmap:=hperm.map decE;rw[steps_dec,List.map_map] at hmap;refine⟨b,c,e,f,es,clock,hb0,?_,hbm,?_⟩
   ·have:=congrArg (·[0]?) hcs;simpa using this
   ·have heq:es.toList.map (decE∘WideElems.rg Tryz.prog 5 (WideElems.elemAt (funcToken Tryz.prog) Tryz.prog W 0 (λ _=>true) true n 198))=es.toList.map λ x=>(x.key,x.val):=by
     refine List.map_congr_left λ x hx=> ?_
     obtain⟨y,hy⟩:=fit.reads x hx;have hyr:=WideElems.rg_of hy;have hin:y∈entD stepsD.funcsOut:=hperm.mem_iff.2 (by rw[<-hyr];exact List.mem_map_of_mem hx);have hok:=List.all_eq_true.1 steps_ok y hin;show decE (WideElems.rg Tryz.prog 5 (WideElems.elemAt (funcToken Tryz.prog) Tryz.prog W 0 (λ _=>true) true n 198) x)=(x.key,x.val)
     rw[hyr];unfold WideElems.rd at hy;simp only[Option.bind_eq_some_iff,Option.map_eq_some_iff] at hy;obtain⟨key,hk,d,hdv,rfl⟩:=hy;obtain⟨d,pl⟩:=d;simp only at hok⊢;unfold okE at hok
     split at hok
     ·rename_i nn bb rr heq2;injection heq2 with e1 e2;subst e1 e2;have hkey:x.key= .int .u8 nn:=by
       obtain⟨m,hm,hl,_⟩:=Maps.keyOf_int_inv Tryz.underlying5 hk;injection hl with _ hl;subst hl;exact hm
      have hval:x.val= .func (.func ((fnOf (bb::rr)).headD 0)) #[] #[]:=by
       unfold WideElems.elemAt at hdv
       split at hdv
       ·rename_i hfm;have hone:fnOf (bb::rr)=[(fnOf (bb::rr)).headD 0]:=by
         have:=beq_iff_eq.1 hok
         match hf:fnOf (bb::rr),this with
         |[a],_=>rfl
        have hcells:x.val.cells.toList=[x.val]:=by
         cases hv:x.val<;>first|rfl|(rw[hv] at hfm;simp[Value.formed,Tryz.underlying198] at hfm)
        rw[hcells] at hdv;exact func_of_trod Tryz.underlying198 hone hdv
       ·cases hdv
      rw[hkey,hval]
      rfl
     ·cases hok
    rw[heq] at hmap;exact hmap
 ·obtain rfl:=Option.some.inj (gShapes.symm.trans hgS);obtain rfl:=Option.some.inj (gShapesType.symm.trans htS);simp only[World.var?,hgS,Option.bind_some] at hvarS
  split at hvarS
  ·rename_i c e f he;obtain rfl:=Option.some.inj hvarS;refine⟨c,e,f,he,λ k hk=> ?_⟩;have:=shape_cells hdS (k/4) (k%4) (by omega) (by omega);have e1:k/4*4+k%4=k:=by omega
   rw[e1,Array.getElem?_toList] at this;rw[this,shps_eq,List.getElem?_map,List.getElem?_range hk]
   rfl
  ·cases hvarS
 ·obtain rfl:=Option.some.inj (gBits.symm.trans hgB);obtain rfl:=Option.some.inj (gBitsType.symm.trans htB);simp only[World.var?,hgB,Option.bind_some] at hvarB
  split at hvarB
  ·rename_i c e f he;obtain rfl:=Option.some.inj hvarB;refine⟨c,e,f,he,λ k hk=> ?_⟩;have:=bits_cells hdB k hk;rw[Array.getElem?_toList] at this;rw[this,dbr_eq,List.getElem?_map,List.getElem?_range hk]
   rfl
  ·cases hvarB
def putCells(l:List Value):Obj->Obj
 | .cells _ t frozen=>.cells l.toArray t frozen
 |o=>o
noncomputable def laidHeap(h:Array Obj):Array Obj:=((((h.modify 0 (putCells Cr.cmps)).modify 1 (putCells [.map (some h.size)])).modify 2 (putCells Cr.dbr)).modify 3 (putCells Cr.shps)).push (.map (Cr.stp0.zipIdx.map λ x=>({key:=x.1.1,val:=x.1.2,born:=x.2}:MapEntry)).toArray 10)
noncomputable def laidWorld(os:Os):World:={World.holding Tryz.prog os ⟨#[],#[],[]⟩ with heap:=laidHeap (World.holding Tryz.prog os ⟨#[],#[],[]⟩).heap}
theorem funcsAt_of{P:Program}{w:World}{n:String}{d:DataW Unit}{g t fuel:Nat}{cs:Array Value}(h1:P.globalNamed n=some g)(h2:(P.globals[g]?).map (·.type)=some t)(h3:w.var? P n=some cs)
  (h4:(DataW.trod (funcToken P) P w 0 (λ _=>true) true fuel t cs.toList).map (·.1)=some d.funcsOut):funcsAt P w n d:=by
 obtain⟨x,hx,hd⟩:=Option.map_eq_some_iff.1 h4;exact⟨g,t,cs,fuel,x.2,h1,h2,h3,by rw[hx,<-hd]⟩
theorem laid_met_of{W:World}(h1:laidMet Tryz.prog dataL W)(h2:funcsAt Tryz.prog W "weephole/explore.steps" stepsD)(h3:funcsAt Tryz.prog W "weephole/query.compare" compD):laidMetH Tryz.prog laidL W:=by
 have h4:handlesMet Tryz.prog funcL W:=by
  intro x hx;rcases List.mem_cons.1 hx with rfl|hx
  ·exact h2
  ·obtain rfl:=List.mem_singleton.1 hx;exact h3
 exact⟨h1,h4⟩
end Go.Proofs.YtgdpkkjfcdhmdaaGreatDoor
