/- Texts of the proof. -/
import Derived.WideKeyArgs
import Derived.ChangeSame
import Derived.ChangeArms
import Derived.OpenShut
import Derived.Carry
import Derived.Test.YtbedjbhndfbpcaaGreatRows
import Derived.WalkKit
import Derived.ProofKit
import Derived.Test.YtbedjbhndfbpcaaGreatSeatOnePl
import Derived.Test.YtbedjbhndfbpcaaGreatSeatOnePze
import Derived.Test.YtbedjbhndfbpcaaGreatSeatOnePzj
set_option linter.unusedVariables false
set_option linter.unusedSimpArgs false
namespace Go.Tm
open Go.RowKit Go.WideShapes Go.ChangeShapes
def aggT(P:Program)(t:TypeId):Bool:=match P.underlying t with
 |some (.struct _)=>true
 | _=>false
def mkD(P:Program)(t:TypeId)(l:List D):D:=bif aggT P t then .agg l else l.headD .undef
def zmk(P:Program)(chk:TypeId->Bool):Nat->List Field->Nat->Bool
 |off,[],tot=>Nat.beq off tot
 |off,f::fs,tot=>Nat.beq f.offset off&&chk f.type&&zmk P chk (off+P.cellsOf f.type) fs tot
def ztl(P:Program):Nat->TypeId->Bool
 |0,_=>false
 |n+1,t=>match P.underlying t with
  |some .bool=>true
  |some (.int _)=>true
  |some .string=>true
  |some (.slice e)=>ztl P n e&&Nat.blt 0 (P.cellsOf e)&&(aggT P e||Nat.beq (P.cellsOf e) 1)
  |some (.struct fs)=>zmk P (ztl P n) 0 fs.toList (P.cellsOf t)
  | _=>false
def zs1(p:TypeId->List D->Prop):List TypeId->List D->Prop
 |[],l=>l=[]
 |t::ts,l=>∃l1 l2,l=l1++l2/\p t l1/\zs1 p ts l2
def zil(P:Program):Nat->TypeId->List D->Prop
 |0,_,_=>False
 |n+1,t,l=>match P.underlying t with
  |some .bool=>∃b,l=[.bool b]
  |some (.int k)=>∃m,l=[.int k m]
  |some .string=>∃s,l=[.str s]
  |some (.slice e)=>∃xs:List (List D),l=[.imm (P.cellsOf e) (xs.map (mkD P e)) 4]/\∀x∈xs,zil P n e x
  |some (.struct fs)=>zs1 (zil P n) (fs.toList.map (·.type)) l
  | _=>False
theorem zra{C:Cx}:∀{l1 l2:List D} {v1 v2:List Value},reps C l1 v1->reps C l2 v2->reps C (l1++l2) (v1++v2)
 |[],l2,v1,v2,h1,h2=>by simp only[reps] at h1;subst h1;simpa using h2
 |d::ds,l2,v1,v2,h1,h2=>by
  simp only[reps] at h1
  obtain⟨v,vs,rfl,hd,h1⟩:=h1
  simp only[zb2,reps]
  exact⟨v,vs++v2,rfl,hd,zra h1 h2⟩
theorem ya0s{C:Cx}{b s:Nat}{p:List D->Prop}{f:List D->D}:∀(n o:Nat),(∀i,i<n->∃l v,p l/\rep C (f l) v/\v.cells.size=s/\v.cells.toList.all (·.oneCell')=true/\C.w.rangeAt b (o+i*s) v.cells.toList)->
  ∃xs:List (List D),xs.length=n/\zcf C (xs.map f) b o s/\∀x∈xs,p x
 |0,o,_=>⟨[],rfl,by simp only[List.map_nil,zcf],by simp⟩
 |n+1,o,h=>by
  obtain⟨l,v,h1,h2,h3,h4,h5⟩:=h 0 (by omega)
  obtain⟨xs,g1,g2,g3⟩:=ya0s n (o+s) (fun i hi=>by
   obtain⟨l,v,h1,h2,h3,h4,h5⟩:=h (i+1) (by omega)
   exact⟨l,v,h1,h2,h3,h4,by rwa [show o+(i+1)*s=o+s+i*s by rw[Nat.add_mul];omega] at h5⟩)
  refine⟨l::xs,by simp[g1],?_,by simpa using ⟨h1,g3⟩⟩
  simp only[zai,zcf]
  exact⟨⟨v,h2,h3,h4,by simpa using h5⟩,g2⟩
theorem ztc{P:Program}{chk:TypeId->Bool}:∀(fs:List Field) (off tot:Nat),zmk P chk off fs tot=true->off<=tot
 |[],off,tot,h=>Nat.le_of_eq (nb h)
 |f::fs,off,tot,h=>by
  simp only[zmk,za0] at h
  have:=ztc fs _ _ h.2
  omega
section
variable {H : Type} {enc : TypeId × Value -> H} {P : Program} {w : World} {sp : Nat -> Bool}
theorem zs2:∀(n fuel:Nat) (t:TypeId) (cs:List Value) (x:DataW H×List MemPlace) (C:Cx),C.w=w->(∀b,¬C.M b)->(∀b,C.Z b)->ztl P n t=true->DataW.trod enc P w 0 sp true fuel t cs=some x->
  ∃l,reps C l cs/\zil P n t l/\cs.all (·.oneCell')=true
 |0,_,_,_,_,_,_,_,_,h,_=>by simp[ztl] at h
 |n+1,fuel,t,cs,x,C,hw,hM,hlo,hd,h=>by
  unfold ztl at hd
  split at hd
  rename_i ht
  simp only[zil,ht]
  obtain⟨b,rfl,_⟩:=DataW.trod_bool ht h
  exact⟨[.bool b],by simp only[reps,rep];exact⟨_,_,rfl,rfl,rfl⟩,⟨b,rfl⟩,rfl⟩
  rename_i k ht
  simp only[zil,ht]
  obtain⟨m,rfl,_,hwf⟩:=DataW.trod_int ht h
  simp only[Lit.wf,za0,decide_eq_true_eq] at hwf
  exact⟨[.int k m],by simp only[reps,rep];exact⟨_,_,rfl,⟨rfl,hwf⟩,rfl⟩,⟨m,rfl⟩,rfl⟩
  rename_i ht
  simp only[zil,ht]
  obtain⟨s,rfl,_,hs⟩:=DataW.trod_string ht h
  refine⟨[.str s.data.toList],?_,⟨_,rfl⟩,rfl⟩
  simp only[reps,rep]
  refine⟨_,_,rfl,⟨by rw[Array.toArray_toList],?_⟩,rfl⟩
  have h1:s.data.toList.length=s.size:=by rw[Array.length_toList];rfl
  have h2:s.size<=9223372036854775807:=hs
  rw[h1];omega
  ·rename_i e ht
   simp only[zil,ht]
   simp only[za0,zau] at hd
   obtain⟨⟨hde,hpos⟩,hone⟩:=hd
   have hpos:0<P.cellsOf e:=lb hpos
   rcases DataW.trod_slice ht h with⟨rfl,_⟩|⟨a,len,cap,els,rest,m,_,rfl,_,hb,hl,hc,hlen,hel,_⟩
   refine⟨[.imm (P.cellsOf e) (([]:List (List D)).map (mkD P e)) 4],?_,⟨[],rfl,fun _ h=>by cases h⟩,rfl⟩
   simp only[reps,rep,List.map_nil,zbo]
   exact⟨_,_,rfl,⟨none,0,rfl,by simp,by simp,by simp,by simp,by simp,by simp,by simp,.inl trivial⟩,rfl⟩
   ·have hc:cap<=9223372036854775807:=hc
    have key:∀i,i<len->∃l v,zil P n e l/\rep (C.at C.Z) (mkD P e l) v/\v.cells.size=P.cellsOf e/\v.cells.toList.all (·.oneCell')=true/\(i=0->a.spot=none)/\a.block<w.heap.size/\w.rangeAt a.block (a.off+i*P.cellsOf e) v.cells.toList:=by
     intro i hi
     have hi':=hel i hi
     have hsome:els[i]?=some els[i]:=List.getElem?_eq_getElem (by omega)
     rw[hsome,Option.bind_eq_some_iff] at hi'
     obtain⟨cs',hcs,htr⟩:=hi'
     obtain⟨_,hclen,hcell⟩:=World.cells?_some hcs
     obtain⟨l,g1,g2,g3⟩:=zs2 n m e cs' _ (C.at C.Z) (by simpa[Cx.at] using hw) (by simpa[Cx.at] using hM) (by simpa[Cx.at] using hlo) hde htr
     have h0:=hcell 0 hpos
     have hc0:cs'[0]?=some cs'[0]:=List.getElem?_eq_getElem (by omega)
     rw[hc0] at h0
     have hadd:∀j,((a.add (i*P.cellsOf e)).add j).block=a.block:=by intro j;unfold Addr.add;split<;>split<;>rfl
     have hblk:a.block<w.heap.size/\((a.add (i*P.cellsOf e)).add 0).spot=none:=by
      unfold World.cell? at h0
      rw[hadd] at h0
      split at h0
      rename_i c T fz hh
      have:=(Array.getElem?_eq_some_iff.1 hh).1
      split at h0
      cases h0
      rename_i hs;exact⟨this,by simpa using hs⟩
      cases h0
     have hspot0:(a.add (i*P.cellsOf e)).spot=none:=by simpa[Addr.add] using hblk.2
     have hae:∀j,j<P.cellsOf e->(a.add (i*P.cellsOf e)).add j=⟨a.block,a.off+i*P.cellsOf e+j,none⟩:=by
      intro j _
      unfold Addr.add at hspot0 ⊢
      split at hspot0
      ·rename_i hz
       simp only[hz,if_true,Nat.add_zero]
       split
       ·rename_i hj;subst hj;cases a;simp_all
       rfl
      rename_i hz
      simp only[hz,if_false]
      split
      rename_i hj;subst hj;rfl
      rfl
     have hrange:w.rangeAt a.block (a.off+i*P.cellsOf e) cs':=by
      intro j v hj
      have hjl:=(List.getElem?_eq_some_iff.1 hj).1
      have:=hcell j (by omega)
      rw[hae j (by omega),hj] at this
      exact this
     cases hag:aggT P e with
     |true=>
      refine⟨l,.agg cs'.toArray,g2,?_,by simp[Value.cells,hclen],by simpa[Value.cells] using g3,?_,hblk.1,by simpa[Value.cells] using hrange⟩
      simp only[mkD,hag,cond_true,rep]
      exact⟨cs',rfl,g1⟩
      rintro rfl;simpa[Addr.add] using hspot0
     |false=>
      rw[hag] at hone
      have h1:P.cellsOf e=1:=by simpa using hone
      rw[h1] at hclen
      obtain⟨v,rfl⟩:=List.length_eq_one_iff.1 hclen
      obtain⟨d,rfl⟩:∃d,l=[d]:=List.length_eq_one_iff.1 ((zdh _ _ g1).symm.trans rfl)
      simp only[reps] at g1
      obtain⟨v',vs',hv,hd,rfl⟩:=g1
      obtain rfl:v=v':=(List.cons.inj hv).1
      have hcv:v.cells=#[v]:=by
       simp only[List.all_cons,List.all_nil,Bool.and_true] at g3
       cases v<;>first|rfl|simp[Value.oneCell'] at g3
      refine⟨[d],v,g2,by simpa[mkD,hag] using hd,by simp[hcv,h1],by simpa[hcv] using g3,?_,hblk.1,by simpa[hcv] using hrange⟩
      rintro rfl;simpa[Addr.add] using hspot0
    obtain⟨xs,g1,g2,g3⟩:=ya0s (C:=C.at C.Z) (b:=a.block) (s:=P.cellsOf e) (p:=zil P n e) (f:=mkD P e) len a.off (fun i hi=>by
     obtain⟨l,v,h1,h2,h3,h4,_,_,h5⟩:=key i hi
     exact⟨l,v,h1,h2,h3,h4,by subst hw;exact h5⟩)
    refine⟨[.imm (P.cellsOf e) (xs.map (mkD P e)) 4],?_,⟨xs,rfl,g3⟩,rfl⟩
    simp only[reps,rep,List.length_map,g1]
    refine⟨_,_,rfl,⟨some a,cap,rfl,hl,by omega,by simp,by simp,by simp,by simp,by simp,?_⟩,rfl⟩
    rcases Nat.eq_zero_or_pos len with h0|h0
    left;subst h0;have:=List.length_eq_zero_iff.1 g1;simp[this]
    right
    obtain⟨_,_,_,_,_,_,k1,k2,_⟩:=key 0 h0
    intro Z hZ
    have hZ:C.Z=Z:=by simpa[Cx.zone] using hZ
    subst hZ
    exact⟨a,rfl,k1 rfl,hM _,hlo _,by exact⟨by rw[hw];exact k2,fun h=>by simp at h⟩,g2⟩
  rename_i fs ht
  simp only[zil,ht]
  obtain⟨xs,m,_,_,hcl,hxl,hf⟩:=DataW.trod_struct ht h
  have key:∀(gs:List Field) (k:Nat),(∀i f,gs[i]?=some f->fs[k+i]?=some f)->∀off,zmk P (ztl P n) off gs (P.cellsOf t)=true->off<=cs.length->
    ∃l,reps C l (cs.drop off)/\zs1 (zil P n) (gs.map (·.type)) l/\(cs.drop off).all (·.oneCell')=true:=by
   intro gs
   induction gs with
   |nil=>
    intro k _ off ho _
    simp only[zmk] at ho
    have ho:=nb ho
    have:cs.drop off=[]:=by rw[ho,<-hcl];simp
    rw[this]
    exact⟨[],by simp only[reps],rfl,rfl⟩
   |cons f gs ih=>
    intro k hk off ho hle
    simp only[zmk,za0] at ho
    obtain⟨⟨h1,h2⟩,h3⟩:=ho
    have h1:=nb h1
    have hfk:=hf k f (by simpa using hk 0 f rfl)
    have hkl:k<xs.length:=by
     have:=hk 0 f rfl
     rw[hxl]
     exact(Array.getElem?_eq_some_iff.1 (by simpa using this)).1
    rw[List.getElem?_eq_getElem hkl,h1] at hfk
    obtain⟨l1,g1,g2,g3⟩:=zs2 n m f.type _ _ C hw hM hlo h2 hfk
    have hl1:((cs.drop off).take (P.cellsOf f.type)).length=P.cellsOf f.type:=by
     have:=ztc _ _ _ h3
     simp
     omega
    obtain⟨l2,k1,k2,k3⟩:=ih (k+1) (fun i f' hi=>by have:=hk (i+1) f' (by simpa using hi);rwa [show k+(i+1)=k+1+i by omega] at this) (off+P.cellsOf f.type) h3 (by
     simp at hl1;omega)
    have e:cs.drop off=(cs.drop off).take (P.cellsOf f.type)++cs.drop (off+P.cellsOf f.type):=by
     rw[<-List.drop_drop,List.take_append_drop]
    refine⟨l1++l2,by rw[e];exact zra g1 k1,⟨l1,l2,rfl,g2,k2⟩,by rw[e,List.all_append,g3,k3];rfl⟩
  simpa using key fs.toList 0 (fun i f hi=>by simpa using hi) 0 hd (Nat.zero_le _)
  cases hd
theorem ya56{r:Reach}{b0 n:Nat}{t:TypeId}{v:Value}{d:DataW H}{ps:List MemPlace}{fr:Nat}(hd:ztl P n t=true)(hval:Value.okWide P w r b0 t v)(h:DataW.Trod enc P w 0 sp true t v d ps):
  ∃l,zil P n t l/\rep (cx0 w fr) (mkD P t l) v:=by
 obtain⟨fuel,h⟩:=h
 obtain⟨l,h1,h2,h3⟩:=zs2 n fuel t _ _ (cx0 w fr) rfl (fun _ h=>h) (fun _=>trivial) hd h
 refine⟨l,h2,?_⟩
 unfold mkD aggT
 cases n with
 |zero=>simp[ztl] at hd
 |succ n=>
  unfold ztl at hd
  unfold Value.okWide at hval
  split at hd
  case h_5 fs ht=>
   rw[ht] at hval ⊢
   obtain⟨cs,rfl,_⟩:=hval
   simp only[cond_true,rep]
   exact⟨cs.toList,by simp,by simpa[Value.cells] using h1⟩
  case h_6=>cases hd
  all_goals
   rename_i ht
   rw[ht] at hval ⊢
   simp only[cond_false]
   have hcv:v.cells=#[v]:=by
    cases v with
    |agg cs=>simp[Cell.okWide,Cell.ok,ht] at hval
    | _=>rfl
   rw[hcv] at h1
   have hl:∃d,l=[d]:=List.length_eq_one_iff.1 ((zdh _ _ h1).symm.trans rfl)
   obtain⟨d,rfl⟩:=hl
   simp only[reps] at h1
   obtain⟨v',vs',hv,hd',_⟩:=h1
   obtain rfl:v=v':=by simpa using (List.cons.inj hv).1
   exact hd'
def zm7(P:Program)(n:Nat):List TypeId->List D->Prop
 |[],l=>l=[]
 |t::ts,l=>∃c r,l=mkD P t c::r/\zil P n t c/\zm7 P n ts r
theorem zr5{r:Reach}{b0 n fr:Nat}:∀{ts:List TypeId} {vs:List Value} {ds:List (DataW H)} {ps:List MemPlace},ts.all (ztl P n)=true->(∀(j:Nat) t v,ts[j]?=some t->vs[j]?=some v->Value.okWide P w r b0 t v)->
  DataW.TrodAll enc P w 0 sp true ts vs ds ps->∃l,zm7 P n ts l/\reps (cx0 w fr) l vs
 |[],[],[],_,_,_,_=>⟨[],rfl,by simp only[reps]⟩
 |t::ts,v::vs,d::ds,ps,hd,hval,h=>by
  obtain⟨p,q,h1,h2,_⟩:=h
  simp only[List.all_cons,za0] at hd
  obtain⟨c,g1,g2⟩:=ya56 (fr:=fr) hd.1 (hval 0 t v rfl rfl) h1
  obtain⟨l,k1,k2⟩:=zr5 hd.2 (fun j t v h h'=>hval (j+1) t v h h') h2
  exact⟨_::l,⟨c,l,rfl,g1,k1⟩,by simp only[reps];exact⟨_,_,rfl,g2,k2⟩⟩
 |[],_::_,_,_,_,_,h=>h.elim
 |[],[],_::_,_,_,_,h=>h.elim
 | _::_,[],_,_,_,_,h=>h.elim
 | _::_,_::_,[],_,_,_,h=>h.elim
theorem zp5(hl:laidOutB P=true){W W':World}(hB:Below W.heap.size W W'){sp':Nat->Bool}:∀{ts:List TypeId} {vs:List Value} {ds:List (DataW H)} {ps:List MemPlace},(ts.all fun t=>P.readableRec t&&Nat.blt t P.types.size)=true->
  DataW.TrodAll enc P W 0 (fun _=>true) true ts vs ds ps->(∀p∈ps,p.block<W.heap.size/\sp' p.block=true)->DataW.TrodAll enc P W' 0 sp' true ts vs ds ps
 |[],[],[],_,_,h,_=>h
 |t::ts,v::vs,d::ds,ps,hr,h,hp=>by
  obtain⟨p,q,h1,h2,rfl⟩:=h
  simp only[List.all_cons,za0] at hr
  refine⟨p,q,WideElems.Trod_stays hl hr.1.1 (lb hr.1.2) h1 (fun x hx=>hB.same (hp x (by simp[hx])).1) (fun x hx=>(hp x (by simp[hx])).2),?_,rfl⟩
  exact zp5 hl hB hr.2 h2 fun x hx=>hp x (by simp[hx])
 |[],_::_,_,_,_,h,_=>h.elim
 |[],[],_::_,_,_,h,_=>h.elim
 | _::_,[],_,_,_,h,_=>h.elim
 | _::_,_::_,[],_,_,h,_=>h.elim
theorem zxd{K:FuncId}{f:Func}{s:ChangeSpec}{apart fresh:Bool}{n:Nat}{tb:TypeId}(hl:laidOutB P=true)(hr:(f.params.toList.all fun t=>P.readableRec t&&Nat.blt t P.types.size)=true)
  (hd:f.params.toList.all (ztl P n)=true) (hvars:s.vars=[]) (hres:f.resultTypes=#[tb]) (hb:P.underlying tb=some .bool)
  (hfn:∀ds:List (DataW H),ds.length=f.params.size->s.fn H ds={results:=[.lit (.bool true)],args:=ds})
  (hK:∀l,zm7 P n f.params.toList l->zbi P K l (.bool true)) {W:World} (hG:Gw W.heap.size W) {base:Nat} {args:Array Value} {ds gs:List (DataW H)} {before:List MemPlace}
  (hval:∀(j:Nat) t v,f.params[j]?=some t->args[j]?=some v->Value.okWide P W .any base t v) (hW:DataW.Whole enc P f.params.toList s.vars apart W args.toList ds gs before):
  Calls P K args W fun e W'=>∃v,e=.returned v/\s.post enc P f apart fresh false false W args v W':=by
 have hW':=hW
 obtain⟨p,q,hA,hV,rfl,hfz,hnd⟩:=hW
 rw[hvars] at hV
 have hlen:ds.length=f.params.size:=by
  have:∀{ts:List TypeId} {vs:List Value} {ds:List (DataW H)} {ps:List MemPlace},DataW.TrodAll enc P W 0 (fun _=>true) true ts vs ds ps->ds.length=ts.length:=by
   intro ts
   induction ts with
   |nil=>intro vs ds ps h;cases vs<;>cases ds<;>first|rfl|exact h.elim
   |cons t ts ih=>intro vs ds ps h;cases vs<;>cases ds<;>first|(obtain⟨_,_,_,h2,_⟩:=h;simp[ih h2])|exact h.elim
  simpa using this hA
 have hgs:gs=[]/\q=[]:=by
  cases gs with
  |nil=>exact⟨rfl,hV⟩
  |cons g gs=>exact hV.elim
 obtain⟨rfl,rfl⟩:=hgs
 obtain⟨l,h1,h2⟩:=zr5 (fr:=W.heap.size) hd (fun j t v h h'=>hval j t v (by simpa using h) (by simpa using h')) hA
 refine((hK l h1).2 W _ hG h2).mono fun e W' ⟨v,he,hk,_,hv⟩=>⟨v,he,?_⟩
 simp only[rep] at hv
 subst hv
 have hB:=hk.below
 have hlt:=hW'.lt
 have hf:=hfn ds hlen
 refine⟨ds,[],p++[],[],p,[],hW',?_,?_,?_,?_,fun h=>by cases h⟩
 rw[zag,hf,hres]
 exact⟨[],[],⟨1,by simp[DataW.trod,Value.cells,hb]⟩,rfl,rfl⟩
 rw[zag,hf]
 exact zp5 hl hB hr hA fun x hx=>⟨hlt x (by simp[hx]),by simpa using hlt x (by simp[hx])⟩
 rw[zag,hf,hvars]
 rfl
 exact hB.frame _
end
theorem ya3y{α:Type}{f:α->D}{g:List D->D}:∀(xs:List (List D)),(∀x∈xs,∃y,g x=f y)->∃l:List α,xs.map g=l.map f
 |[],_=>⟨[],rfl⟩
 |x::xs,h=>by
  obtain⟨y,hy⟩:=h x (by simp)
  obtain⟨l,hl⟩:=ya3y xs fun x hx=>h x (by simp[hx])
  exact⟨y::l,by simp only[zai,hy,hl]⟩
section
variable {P : Program} {n : Nat} {t : TypeId} {l : List D}
theorem zqh{d:D}(ha:aggT P t=false):mkD P t [d]=d:=by simp only[mkD,ha,cond_false,List.headD_cons]
theorem ya3t(ha:aggT P t=true):mkD P t l=.agg l:=by simp only[mkD,ha,cond_true]
theorem zn2{k:IntKind}(hu:P.underlying t=some (.int k))(h:zil P (n+1) t l):∃m,l=[.int k m]:=by
 rw[zil,hu] at h;exact h
theorem ya2l(hu:P.underlying t=some .string)(h:zil P (n+1) t l):∃s,l=[.str s]:=by
 rw[zil,hu] at h;exact h
theorem zui{α:Type}(f:α->D){e:TypeId}{s:Nat}(hu:P.underlying t=some (.slice e))(ha:aggT P t=false)(hc:P.cellsOf e=s)(hx:∀x,zil P n e x->∃y,mkD P e x=f y)(h:zil P (n+1) t l):
  ∃m:List α,mkD P t l=.imm s (m.map f) 4:=by
 rw[zil,hu] at h
 obtain⟨xs,rfl,hxs⟩:=h
 obtain⟨m,hm⟩:=ya3y (f:=f) (g:=mkD P e) xs fun x hx'=>hx x (hxs x hx')
 exact⟨m,by rw[zqh ha,hm,hc]⟩
theorem zwo{e:TypeId}(hu:P.underlying t=some (.slice e))(h:zil P (n+1) t l):∃d,l=[d]:=by
 rw[zil,hu] at h
 obtain⟨xs,rfl,_⟩:=h
 exact⟨_,rfl⟩
theorem zr4{fs:Array Field}(hu:P.underlying t=some (.struct fs))(h:zil P (n+1) t l):zs1 (zil P n) (fs.toList.map (·.type)) l:=by
 rw[zil,hu] at h;exact h
theorem zj7{p:TypeId->List D->Prop}{ts:List TypeId}(h:zs1 p (t::ts) l):∃l1 l2,l=l1++l2/\p t l1/\zs1 p ts l2:=h
theorem zuj{p:TypeId->List D->Prop}(h:zs1 p [] l):l=[]:=h
theorem zm6{ts:List TypeId}(h:zm7 P n (t::ts) l):∃c r,l=mkD P t c::r/\zil P n t c/\zm7 P n ts r:=h
theorem zwp(h:zm7 P n [] l):l=[]:=h
end
end Go.Tm
namespace Go.Proofs.YtbedjbhndfbpcaaGreat.seatOne
open Go.ChangeShapes Go.WideShapes Go.RowKit Go.Tm
set_option maxRecDepth 100000
theorem own:ownKnob Tryz.prog.godebug=none:=by kernel_rfl
theorem yab6:aggT Tryz.prog 24=true:=by kernel_rfl
theorem yaah:aggT Tryz.prog 22=false:=by kernel_rfl
theorem agg3:aggT Tryz.prog 3=false:=by kernel_rfl
theorem yaaf:Tryz.prog.cellsOf 3=1:=by kernel_rfl
theorem tc22{n:Nat}{l:List D}(h:zil Tryz.prog (n+2) 22 l):∃m:List Int,l=[.imm 1 (m.map (D.int .i64)) 4]:=by
 obtain⟨d,hd⟩:=zwo Tryz.underlying22 h
 obtain⟨m,hm⟩:=zui (D.int .i64) Tryz.underlying22 yaah yaaf (fun x hx=>by
  obtain⟨a,ha⟩:=zn2 Tryz.underlying3 hx
  exact⟨a,ha▸zqh agg3⟩) h
 rw[hd,zqh yaah] at hm
 exact⟨m,by rw[hd,hm]⟩
theorem tc24{n:Nat}{l:List D}(h:zil Tryz.prog (n+3) 24 l):∃x:TGroup,l=[.imm 1 (x.Roster.map (D.int .i64)) 4,.imm 1 (x.Members.map (D.int .i64)) 4]:=by
 replace h:=zr4 Tryz.underlying24 h
 obtain⟨l0,r0,e0,h0,h⟩:=zj7 h
 obtain⟨l1,r1,e1,h1,h⟩:=zj7 h
 have ez:=zuj h
 obtain⟨a0,f0⟩:=tc22 (n:=n+0) h0
 obtain⟨a1,f1⟩:=tc22 (n:=n+0) h1
 refine⟨⟨a0,a1⟩,?_⟩
 rw[e0,e1,ez,f0,f1]
 exact rfl
theorem ya85:aggT Tryz.prog 25=false:=by kernel_rfl
theorem yab5:aggT Tryz.prog 44=true:=by kernel_rfl
theorem tc44{n:Nat}{l:List D}(h:zil Tryz.prog (n+2) 44 l):∃x:Ttowncrierlaw25_Act,l=[.int .u8 x.Kind,.int .i64 x.Node,.int .i64 x.At,.str x.Value]:=by
 replace h:=zr4 Tryz.underlying44 h
 obtain⟨l0,r0,e0,h0,h⟩:=zj7 h
 obtain⟨l1,r1,e1,h1,h⟩:=zj7 h
 obtain⟨l2,r2,e2,h2,h⟩:=zj7 h
 obtain⟨l3,r3,e3,h3,h⟩:=zj7 h
 have ez:=zuj h
 obtain⟨a0,f0⟩:=zn2 Tryz.underlying5 h0
 obtain⟨a1,f1⟩:=zn2 Tryz.underlying3 h1
 obtain⟨a2,f2⟩:=zn2 Tryz.underlying3 h2
 obtain⟨a3,f3⟩:=ya2l Tryz.underlying9 h3
 refine⟨⟨a0,a1,a2,a3⟩,?_⟩
 rw[e0,e1,e2,e3,ez,f0,f1,f2,f3]
 exact rfl
theorem ya80:Tryz.prog.cellsOf 44=4:=by kernel_rfl
theorem tc25{n:Nat}{l:List D}(h:zil Tryz.prog (n+3) 25 l):∃m:List Ttowncrierlaw25_Act,l=[.imm 4 (m.map Ttowncrierlaw25_Act.d) 4]:=by
 obtain⟨d,hd⟩:=zwo Tryz.underlying25 h
 obtain⟨m,hm⟩:=zui Ttowncrierlaw25_Act.d Tryz.underlying25 ya85 ya80 (fun x hx=>by
  obtain⟨a,ha⟩:=tc44 (n:=n) hx
  exact⟨a,(ya3t yab5).trans (by rw[ha];rfl)⟩) h
 rw[hd,zqh ya85] at hm
 exact⟨m,by rw[hd,hm]⟩
theorem ya74:Tryz.f3.params.toList=[24,3,25]:=by kernel_rfl
theorem hK(l:List D)(h:zm7 Tryz.prog 8 Tryz.f3.params.toList l):zbi Tryz.prog 3 l (.bool true):=by
 rw[ya74] at h
 obtain⟨c0,r0,e0,h0,h⟩:=zm6 h
 obtain⟨c1,r1,e1,h1,h⟩:=zm6 h
 obtain⟨c2,r2,e2,h2,h⟩:=zm6 h
 have ez:=zwp h
 obtain⟨a0,f0⟩:=tc24 (n:=5) h0
 obtain⟨a1,f1⟩:=zn2 Tryz.underlying3 h1
 obtain⟨a2,f2⟩:=tc25 (n:=5) h2
 rw[e0,e1,e2,ez,f0,f1,f2,ya3t yab6,zqh agg3,zqh ya85]
 exact zk4 a0 a1 a2 _ (zyd a0 a1 a2)
set_option maxRecDepth 100000 in
theorem lifted(os:Os)(started:os.Started)(H:Type)(enc:TypeId×Value->H):
  ReturnsInHanded {} Tryz.checked os 3 .any (Rows.seatOneSpec.pre6 enc Tryz.prog Tryz.f3 Rows.seatOneRow.domain false) (Rows.seatOneSpec.post enc Tryz.prog Tryz.f3 false true false false):=by
 refine returnsInHanded_of_change (C:=Tryz.checked) own started (by kernel_rfl) Tryz.func3
  (ChangeSpec.witness6 (enc:=enc) (C:=Tryz.checked) false ⟨#[],#[.agg #[.slice none 0 0,.slice none 0 0],.int .i64 0,.slice none 0 0],[]⟩ 8 (by kernel_rfl) (by kernel_rfl) (by kernel_rfl) (by kernel_rfl)) ?_
 intro W base args ds gs before hval hW _ _
 exact zxd (K:=3) (n:=8) (tb:=4) (by kernel_rfl) (by kernel_rfl) (by kernel_rfl) rfl rfl Tryz.underlying4 (fun ds h=>by
  match ds,h with
  |[_,_,_],_=>rfl) hK (fun v hv=>nomatch (show none=some v from hv)) hval hW
end Go.Proofs.YtbedjbhndfbpcaaGreat.seatOne
