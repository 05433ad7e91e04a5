/- Texts of the proof. -/
import Derived.Test.YtbedjbhndfbpcaaGreatSeatOnePd
set_option linter.unusedVariables false
set_option linter.unusedSimpArgs false
namespace Go.Tm
open Go.RowKit Go.WideShapes
mutual
theorem zpd{C:Cx}{q:Nat->Bool}{Zt:Nat->Prop}(hq:∀m,q m=true->∃Z,C.zone m=some Z/\∀b,¬C.M b->Z b->b<C.w.heap.size->Zt b):∀(d:D) (v:Value),okM q d=true->d.ids=[]->rep C d v->rep (C.at Zt) (unf d) v
 |.bool b,v,_,_,h=>by simpa only[rep,unf] using h
 |.int k n,v,_,_,h=>by simpa only[rep,unf] using h
 |.str l,v,_,_,h=>by simpa only[rep,unf] using h
 |.agg l,v,hk,hi,h=>by
  simp only[rep,unf,okM,D.ids] at h hk hi ⊢
  obtain⟨cs,rfl,h⟩:=h
  exact⟨cs,rfl,zkh hq l cs hk hi h⟩
 |.imm s l c,v,hk,_,h=>by
  simp only[rep,unf,okM,zau,List.isEmpty_iff] at h hk ⊢
  obtain⟨a,cap,rfl,h1,h2,h3,h4,h5,h6,hfl,h7⟩:=h
  have hu:=zwn c
  have hm:unk c%8=unk c:=by omega
  have hm0:unk c/8=0:=by omega
  rw[hm,hm0]
  refine⟨a,cap,rfl,h1,h2,fun e=>h3 (by omega),fun e=>h4 (by omega),fun e=>h5 (by omega),h6,fun h=>absurd h (by omega),?_⟩
  rcases h7 with h7|h7
  exact .inl h7
  rcases hk with hk|hk
  obtain⟨Z,hZ,hb⟩:=hq _ hk
  obtain⟨a0,ha,hs,hM,hlo,hlt,he⟩:=h7 Z hZ
  right
  intro Z' hZ'
  have:Z'=Zt:=by simpa[Cx.zone,Cx.at] using hZ'.symm
  subst this
  exact⟨a0,ha,hs,hM,hb _ hM hlo hlt.1,hlt.any (by omega),zh2 (C:=C.at Z) (C':=(C.at Z').at Z') (Cx.Le.inner (C:=C) (C':=C) (fun _ _=>rfl) fun b g1 g2 g3=>⟨g1,hb b g1 g2 g3,rfl⟩) _ _ _ _ rfl he⟩
  exact .inl hk
 |.ref id s off len oc,v,_,hi,h=>by simp[D.ids] at hi
 |.ptr id off,v,_,hi,h=>by simp[D.ids] at hi
 |.eptr id s i off,v,_,hi,h=>by simp[D.ids] at hi
 |.iptr m l,v,hk,_,h=>by
  simp only[rep,unf,okM] at h hk ⊢
  obtain⟨a0,rfl,hs,hfl,h7⟩:=h
  refine⟨a0,rfl,hs,fun h=>absurd h (by omega),?_⟩
  rcases h7 with h7|h7
  exact .inl h7
  obtain⟨Z,hZ,hb⟩:=hq _ hk
  obtain⟨hM,hlo,hlt,he⟩:=h7 Z hZ
  right
  intro Z' hZ'
  have:Z'=Zt:=by simpa[Cx.zone,Cx.at] using hZ'.symm
  subst this
  exact⟨hM,hb _ hM hlo hlt,hlt,ztp (C:=C.at Z) (C':=(C.at Z').at Z') (Cx.Le.inner (C:=C) (C':=C) (fun _ _=>rfl) fun b g1 g2 g3=>⟨g1,hb b g1 g2 g3,rfl⟩) _ _ _ rfl he⟩
 |.nilptr,v,_,_,h=>by simpa only[rep,unf] using h
 |.tuple l,v,hk,hi,h=>by
  simp only[rep,unf,okM,D.ids] at h hk hi ⊢
  obtain⟨cs,rfl,h⟩:=h
  exact⟨cs,rfl,zkh hq l cs hk hi h⟩
 |.fn f l,v,hk,hi,h=>by
  simp only[rep,unf,okM,D.ids] at h hk hi ⊢
  obtain⟨cs,rfl,h⟩:=h
  exact⟨cs,rfl,zkh hq l cs hk hi h⟩
 |.nilfn,v,_,_,h=>by simpa only[rep,unf] using h
 |.iface t d,v,hk,hi,h=>by
  simp only[rep,unf,okM,D.ids] at h hk hi ⊢
  obtain⟨x,rfl,h⟩:=h
  exact⟨x,rfl,zpd hq d x hk hi h⟩
 |.nilIface,v,_,_,h=>by simpa only[rep,unf] using h
 |.mref id,v,_,hi,h=>by simp[D.ids] at hi
 |.nilmap,v,_,_,h=>by simpa only[rep,unf] using h
 |.sc,v,_,_,h=>by simpa only[rep,unf] using h
 |.when c d,v,hk,hi,h=>by
  simp only[rep,unf,okM,D.ids] at h hk hi ⊢
  exact⟨fun hc=>zpd hq d v hk hi (h.1 hc),h.2⟩
 |.undef,v,_,_,_=>by simp only[rep,unf]
theorem zkh{C:Cx}{q:Nat->Bool}{Zt:Nat->Prop}(hq:∀m,q m=true->∃Z,C.zone m=some Z/\∀b,¬C.M b->Z b->b<C.w.heap.size->Zt b):∀(l:List D) (vs:List Value),okML q l=true->D.idsL l=[]->reps C l vs->reps (C.at Zt) (unfL l) vs
 |[],vs,_,_,h=>by simpa only[reps,unfL] using h
 |d::ds,vs,hk,hi,h=>by
  simp only[reps,unfL,okML,za0,D.idsL,List.append_eq_nil_iff] at h hk hi ⊢
  obtain⟨v,vs',rfl,h1,h2⟩:=h
  exact⟨v,vs',rfl,zpd hq d v hk.1 hi.1 h1,zkh hq ds vs' hk.2 hi.2 h2⟩
end
theorem zm5:∀(l:List D),(unfL l).length=l.length
 |[]=>rfl
 |d::ds=>by simp only[unfL,zak,zm5 ds]
theorem Mem.low{fr w g hp nu}(h:Mem fr w g hp nu):∀m,low3 m=true->∃Z,(cx w g hp).zone m=some Z/\∀b,¬(cx w g hp).M b->Z b->b<(cx w g hp).w.heap.size->g.Z b:=by
 intro m hm
 obtain⟨Z1,h1,h2,_⟩:=h.zs.z1
 obtain⟨Z2,h3,h4⟩:=h.zs.z2
 have hm:m<3:=lb hm
 rcases m with _| _| _|m
 exact⟨_,rfl,fun b _ h _=>h⟩
 exact⟨Z1,h1,fun b _ h _=>(h2 b h).2⟩
 exact⟨Z2,h3,fun b _ h _=>(h4 b h).2⟩
 omega
theorem ztd{C:Cx}:∀(l:List D) (b o s:Nat),zcf C l b o s↔∀i (hi:i<l.length),∃v,rep C l[i] v/\v.cells.size=s/\v.cells.toList.all (·.oneCell')=true/\C.w.rangeAt b (o+i*s) v.cells.toList
 |[],b,o,s=>by simp only[zcf];exact⟨fun _ i hi=>by simp at hi,fun _=>trivial⟩
 |d::ds,b,o,s=>by
  simp only[zcf]
  rw[ztd ds b (o+s) s]
  constructor
  rintro⟨h1,h2⟩ i hi
  cases i with
  |zero=>simpa using h1
  |succ i=>
   have:=h2 i (by simpa using hi)
   rw[show o+(i+1)*s=o+s+i*s by rw[Nat.succ_mul];omega]
   simpa using this
  intro h
  refine⟨?_,fun i hi=>?_⟩
  have h0:=h 0 (by simp)
  rw[Nat.zero_mul,Nat.add_zero] at h0
  exact h0
  have:=h (i+1) (by simpa using hi)
  rw[show o+(i+1)*s=o+s+i*s by rw[Nat.succ_mul];omega] at this
  simpa using this
theorem zf0{w:World}{b o:Nat}{cs:Array Value}{T:TypeId}{fz:Nat×Nat}{l:List Value}(h:w.heap[b]?=some (.cells cs T fz)):w.rangeAt b o l↔∀j v,l[j]?=some v->cs[o+j]?=some v:=by
 unfold World.rangeAt
 simp[World.cell?,h]
theorem ya2r{C:Cx}{d:D}{v:Value}{off:Nat}{new:List D}{nv:List Value}(h:rep C d v)(hn:reps C new nv)(hfit:off+new.length<=d.cells.length)(h0:new≠[])(h1:nv.all (·.oneCell')=true):
  ∃v',rep C (ya1c d off new) v'/\v'.cells.toList=v.cells.toList.take off++nv++v.cells.toList.drop (off+nv.length):=by
 have hl:=zdh _ _ hn
 have hlp:0<new.length:=List.length_pos_iff.2 h0
 by_cases ha:∃l,d=.agg l
 obtain⟨l,rfl⟩:=ha
 simp only[rep] at h
 obtain⟨cs,rfl,h⟩:=h
 refine⟨.agg (cs.take off++nv++cs.drop (off+nv.length)).toArray,?_,by simp[Value.cells]⟩
 simp only[ya1c,rep]
 exact⟨_,rfl,zop h hn⟩
 have hne:d.cells≠[]:=by intro e;rw[e,zbo] at hfit;omega
 have hc:d.cells=[d]:=by cases d<;>first|exact absurd ⟨_,rfl⟩ ha|rfl|exact absurd rfl hne
 rw[hc] at hfit
 simp only[List.length_singleton] at hfit
 have hlen1:new.length=1:=by omega
 have hoff:off=0:=by omega
 subst hoff
 obtain⟨d0,rfl⟩:=List.length_eq_one_iff.1 hlen1
 simp only[reps] at hn
 obtain⟨u,us,rfl,hd0,rfl⟩:=hn
 refine⟨u,?_,?_⟩
 cases d<;>first|exact absurd ⟨_,rfl⟩ ha|exact hd0
 have hu:u.cells=#[u]:=by
  simp only[List.all_cons,List.all_nil,Bool.and_true] at h1
  cases u<;>first|rfl|simp[Value.oneCell'] at h1
 have hs:=zij h hne
 rw[hc] at hs
 have hv:v.cells.toList.length=1:=by simpa using hs
 rw[hu]
 simp only[List.take_zero,zas,List.length_singleton,Nat.zero_add]
 rw[zac (by omega)]
 simp
theorem zyt{l:List D}{i:Nat}(h:i<l.length):nth l i=l[i]:=by
 unfold nth;simp[h]
theorem zon{l:List D}{i:Nat}{d:D}:(setN l i d).length=l.length:=by
 unfold setN;simp
theorem ya5e{l:List D}{i j:Nat}{d:D}(h:j<(setN l i d).length):(setN l i d)[j]=if i=j then d else l[j]'(by rwa [zon] at h):=by
 unfold setN at h ⊢
 simp[List.getElem_set]
theorem zz9{C C':Cx}{items:List D}{b s i off:Nat}{cs:Array Value}{T:TypeId}{new:List D}{nv:List Value}(hle:C.Le C')(hel:zcf C items b 0 s)(hblk:C.w.heap[b]?=some (.cells cs T (0,0)))(hi:i<items.length)
  (hn:reps C' new nv) (hfit:off+new.length<=(nth items i).cells.length) (h0:new≠[]) (h1:nv.all (·.oneCell')=true)
  (hblk':C'.w.heap[b]?=some (.cells (cs.toList.take (i*s+off)++nv++cs.toList.drop (i*s+off+nv.length)).toArray T (0,0))):
  zcf C' (setN items i (ya1c (nth items i) off new)) b 0 s:=by
 rw[ztd] at hel ⊢
 intro j hj
 rw[ya5e hj]
 rw[zon] at hj
 have hl:=zdh _ _ hn
 obtain⟨vi,gi1,gi2,gi3,gi4⟩:=hel i hi
 have hdl:(nth items i).cells≠[]:=by intro e;rw[e,zbo] at hfit;have:=List.length_pos_iff.2 h0;omega
 have hsz:=zij (by rw[zyt hi];exact gi1:rep C (nth items i) vi) hdl
 by_cases e:i=j
 subst e
 simp only[if_true]
 obtain⟨v',k1,k2⟩:=ya2r (C:=C') (zfv hle _ _ (by rw[zyt hi];exact gi1:rep C (nth items i) vi)) hn hfit h0 h1
 refine⟨v',k1,?_,?_,?_⟩
 rw[<-Array.length_toList,k2]
 simp;omega
 rw[k2]
 simp only[List.all_append,h1,Bool.and_true,za0]
 exact⟨List.all_eq_true.2 fun z hz=>List.all_eq_true.1 gi3 z (List.mem_of_mem_take hz),List.all_eq_true.2 fun z hz=>List.all_eq_true.1 gi3 z (List.mem_of_mem_drop hz)⟩
 rw[zf0 hblk']
 rw[zf0 hblk] at gi4
 intro k u hk
 rw[k2] at hk
 have hcsz:∀k,k<s->i*s+k<cs.size:=by
  intro k hk
  have:=gi4 k _ (List.getElem?_eq_getElem (by simp;omega))
  simp only[Nat.zero_add] at this
  exact(Array.getElem?_eq_some_iff.1 this).1
 have hlast:=hcsz (off+nv.length-1) (by have:=List.length_pos_iff.2 h0;omega)
 simp only[Nat.zero_add]
 rw[List.getElem?_toArray]
 rcases Nat.lt_or_ge k off with h|h
 rw[List.append_assoc,List.getElem?_append_left (by simp;omega)] at hk
 rw[List.append_assoc,List.getElem?_append_left (by simp;omega)]
 rw[List.getElem?_take] at hk ⊢
 simp only[h,if_true] at hk
 simp only[show i*s+k<i*s+off by omega,if_true]
 have:=gi4 k u hk
 simpa using this
 rcases Nat.lt_or_ge k (off+nv.length) with h'|h'
 rw[List.append_assoc,List.getElem?_append_right (by simp;omega),List.getElem?_append_left (by simp;omega)] at hk
 rw[List.append_assoc,List.getElem?_append_right (by simp;omega),List.getElem?_append_left (by simp;omega)]
 rw[<-hk]
 congr 1
 simp
 omega
 rw[List.getElem?_append_right (by simp;omega)] at hk
 rw[List.getElem?_append_right (by simp;omega)]
 rw[List.getElem?_drop] at hk ⊢
 have hl2:(List.take off vi.cells.toList++nv).length=off+nv.length:=by simp;omega
 have hl3:(List.take (i*s+off) cs.toList++nv).length=i*s+off+nv.length:=by simp;omega
 rw[hl2,show off+nv.length+(k-(off+nv.length))=k by omega] at hk
 rw[hl3,show i*s+off+nv.length+(i*s+k-(i*s+off+nv.length))=i*s+k by omega]
 have:=gi4 k u hk
 simpa using this
 simp only[e,if_false]
 obtain⟨v,g1,g2,g3,g4⟩:=hel j hj
 refine⟨v,zfv hle _ _ g1,g2,g3,?_⟩
 rw[zf0 hblk']
 rw[zf0 hblk] at g4
 intro k u hk
 have hks:k<s:=by
  have:=(List.getElem?_eq_some_iff.1 hk).1
  simp at this;omega
 have hg:=g4 k u hk
 simp only[Nat.zero_add] at hg ⊢
 have hlt:j*s+k<cs.size:=(Array.getElem?_eq_some_iff.1 hg).1
 have hoff:off+nv.length<=s:=by omega
 rw[List.getElem?_toArray]
 rw[zf0 hblk] at gi4
 have hcsz:∀k,k<s->i*s+k<cs.size:=by
  intro k hk
  have:=gi4 k _ (List.getElem?_eq_getElem (by simp;omega))
  simp only[Nat.zero_add] at this
  exact(Array.getElem?_eq_some_iff.1 this).1
 have hlast:=hcsz (off+nv.length-1) (by have:=List.length_pos_iff.2 h0;omega)
 rcases Nat.lt_or_gt_of_ne e with h|h
 have:(i+1)*s<=j*s:=Nat.mul_le_mul_right _ h
 rw[Nat.succ_mul] at this
 have hl3:(List.take (i*s+off) cs.toList++nv).length=i*s+off+nv.length:=by
  have:=List.length_pos_iff.2 h0
  simp;omega
 rw[List.getElem?_append_right (by rw[hl3];omega),List.getElem?_drop,hl3,show i*s+off+nv.length+(j*s+k-(i*s+off+nv.length))=j*s+k by omega]
 simpa using hg
 have:(j+1)*s<=i*s:=Nat.mul_le_mul_right _ h
 rw[Nat.succ_mul] at this
 rw[List.append_assoc,List.getElem?_append_left (by simp;omega),List.getElem?_take]
 simp only[show j*s+k<i*s+off by omega,if_true]
 simpa using hg
section
variable {P : Program} {E : En} {n : Nat} {F : FrS} {a : Act} {w : World} {g : Gh} (hR : Rel E n F a w g)
include hR
theorem zzb{o:Oper}{t:TypeId}{ti:TI}{x y:Operand}{id s i off e:Nat}{p:Bool}{items:List D}{d:D}(ho:o.op=.store t x y)(ht:zd3 P t ti=true)
  (hx:rep (cx w g F.hp) (.eptr id s i off) (a.eval x)) (hy:rep (cx w g F.hp) d (a.eval y)) (hb:F.hp id=some (.arr e s p items)) (hl:d.cells.length=ti.size) (hi:i<items.length) (hfit:off+ti.size<=(nth items i).cells.length) (h1:d.cells.all oneD=true)
  (hne:ti.size≠0):ze7 P E n a o (F.eff [(id,some (.arr e s (p&&(D.idsL d.cells).isEmpty) (setN items i (ya1c (nth items i) off d.cells))))] (0,0)) .undef w:=by
 simp only[rep] at hx
 obtain⟨_,hs0,b,o',hσ,he⟩:=hx
 rcases hR.mem.hd id _ hb with⟨rfl,_⟩|⟨b',cs,hσ',hblk,hsz,hel⟩
 simp at hi
 have e':=hσ'.symm.trans hσ
 simp only[za5,zaa] at e'
 obtain⟨rfl,rfl⟩:=e'
 have hvs:(a.eval y).cells.size=d.cells.length:=zij hy (by intro e;rw[e] at hl;simp at hl;omega)
 have hvr:=zlx hy hvs.symm
 have hv1:=zlt hvr h1
 have hblk0:w.heap[b']?=some (.cells cs e (0,0)):=hblk
 obtain⟨vi,gi1,gi2,gi3,gi4⟩:=(ztd _ _ _ _).1 hel i hi
 have hdne:(nth items i).cells≠[]:=by intro e;rw[e] at hfit;simp at hfit;omega
 have hsi:=zij (by rw[zyt hi];exact gi1:rep _ (nth items i) vi) hdne
 have hfits:i*s+off+(a.eval y).cells.size<=cs.size:=by
  have h2:items.length*s<=cs.size:=hsz
  have h3:(i+1)*s<=items.length*s:=Nat.mul_le_mul_right _ hi
  rw[Nat.succ_mul] at h3
  omega
 have hst:(storeVar t ⟨b',0+i*s+off,none⟩ (a.eval y)).run P w=.ok () (w.setRow b' (cs.toList.take (i*s+off)++(a.eval y).cells.toList++cs.toList.drop (i*s+off+(a.eval y).cells.size)).toArray):=by
  have:=zr6 (P:=P) (v:=a.eval y) (off:=i*s+off) ht (by omega) hblk0 (by omega) hv1
  rw[Nat.zero_add];exact this
 have hszz:(cs.toList.take (i*s+off)++(a.eval y).cells.toList++cs.toList.drop (i*s+off+(a.eval y).cells.size)).toArray.size=cs.size:=by simp;omega
 refine⟨undef,_,g,.inr ⟨?_,rfl⟩,by simp only[rep],Rel.wrote hR (by rw[hb];simp) hσ' (zj8 w b' cs _ e _ hblk0 hszz) ?_⟩
 unfold execOp
 simp only[ho,he,Instr.storeAt,Instr.sureAddr,pure_bind,Sem.run_bind,hst,Result.andThen_ok,Sem.run_pure]
 intro C hC hle hrf hσC
 have hblkC:C.w.heap[b']?=some (.cells (cs.toList.take (i*s+off)++(a.eval y).cells.toList++cs.toList.drop (i*s+off+(a.eval y).cells.size)).toArray e (0,0)):=by subst hC;exact setRow_heap w b' cs _ e _ hblk0
 refine .inr ⟨b',_,hσC,hblkC,?_,?_⟩
 rw[hszz,zon];exact hsz
 refine zz9 (zqo hle rfl _ _ (by cases p<;>simp)) hel hblk hi (nv:=(a.eval y).cells.toList) ?_ (by omega) (by intro e;rw[e] at hl;simp at hl;omega) hv1 (by simpa using hblkC)
 cases hids:(p&&(D.idsL d.cells).isEmpty)
 simpa[<-hrf] using zhr hle _ _ hvr
 simp only[za0,List.isEmpty_iff] at hids
 exact zka _ _ hids.2 (zhr hle _ _ hvr)
end
end Go.Tm
namespace Go.Tm
open Go.RowKit Go.WideShapes
theorem zpq{C:Cx}(s:Nat):∀(ds:List D) (vs:List Value) (b o:Nat),reps C ds vs->(∀v∈vs,v.cells.size=s)->(∀v∈vs,v.cells.toList.all (·.oneCell')=true)->
  C.w.rangeAt b o (vs.map (·.cells.toList)).flatten->zcf C ds b o s
 |[],vs,b,o,_,_,_,_=>by simp only[zcf]
 |d::ds,vs,b,o,h,hs,h1,hr=>by
  simp only[reps] at h
  obtain⟨v,vs',rfl,hd,h⟩:=h
  simp only[zai,List.flatten_cons] at hr
  have hv:=hs v (by simp)
  simp only[zcf]
  refine⟨⟨v,hd,hv,h1 v (by simp),fun j u hj=>hr j u ?_⟩,zpq s ds vs' b (o+s) h (fun u hu=>hs u (by simp[hu])) (fun u hu=>h1 u (by simp[hu])) fun j u hj=>?_⟩
  rw[List.getElem?_append_left (List.getElem?_eq_some_iff.1 hj).1];exact hj
  have:=hr (s+j) u (by rw[List.getElem?_append_right (by simp[hv])];simpa[hv] using hj)
  rwa [show o+(s+j)=o+s+j by omega] at this
theorem zta(s:Nat):∀(vs:List Value),(∀v∈vs,v.cells.size=s)->((vs.map (·.cells.toList)).flatten).length=vs.length*s
 |[],_=>by simp
 |v::vs,h=>by
  simp only[zai,List.flatten_cons,zaq,zta s vs (fun u hu=>h u (by simp[hu])),Array.length_toList,h v (by simp),zak,Nat.succ_mul]
  omega
theorem zo1{C:Cx}{s:Nat}{ds:List D}{vs:List Value}(h:reps C ds vs)(h1:∀v∈vs,v.cells.size=s)(h2:∀v∈vs,v.cells.toList.all (·.oneCell')=true):Carry C ds s (vs.map (·.cells.toList)).flatten:=by
 intro w' b' o' hr C' hw hle
 exact zpq s _ _ _ _ (zhr hle _ _ h) h1 h2 (by rw[hw];exact hr)
theorem zm9(zs:Array Value):∀(k:Nat),((Array.range (k*zs.size)).map fun i=>zs[i%zs.size]!).toList=(List.replicate k zs.toList).flatten
 |0=>by simp
 |k+1=>by
  have ih:=zm9 zs k
  rw[List.replicate_succ',List.flatten_append,<-ih]
  simp only[Array.toList_map,Array.toList_range,List.flatten_cons,List.flatten_nil,zag]
  rw[Nat.succ_mul,List.range_add,List.map_append,List.map_map]
  congr 1
  apply List.ext_getElem
  simp
  intro i h1 h2
  simp only[List.getElem_map,List.getElem_range,Function.comp,Array.getElem_toList]
  have hi:i<zs.size:=by simpa using h2
  rw[Nat.mul_comm k,Nat.mul_add_mod,Nat.mod_eq_of_lt hi]
  simp[hi]
theorem zqu{C:Cx}{ti:TI}{z:Value}{s:Nat}(hz:∀C:Cx,rep C (zdi ti) z)(hs:z.cells.size=s)(h1:z.cells.toList.all (·.oneCell')=true)(k:Nat):Carry C (List.replicate k (zdi ti)) s (List.replicate k z.cells.toList).flatten:=by
 have hr:∀k,reps C (List.replicate k (zdi ti)) (List.replicate k z):=by
  intro k
  induction k with
  |zero=>simp only[List.replicate_zero,reps]
  |succ k ih=>simp only[List.replicate_succ,reps];exact⟨z,_,rfl,hz C,ih⟩
 have:=zo1 (s:=s) (hr k) (fun v hv=>by rw[List.eq_of_mem_replicate hv];exact hs) (fun v hv=>by rw[List.eq_of_mem_replicate hv];exact h1)
 simpa using this
theorem ya4j{C C':Cx}{items mids:List D}{b s off m:Nat}{cs:Array Value}{T:TypeId}{nv:List Value}(hle:C.Le C')(hel:zcf C items b 0 s)(hblk:C.w.heap[b]?=some (.cells cs T (0,0)))(hl:off+m<=items.length)(hsz:items.length*s<=cs.size)
  (hm:mids.length=m) (hnv:nv.length=m*s) (hmid:C'.w.rangeAt b (off*s) nv->zcf C' mids b (off*s) s)
  (hblk':C'.w.heap[b]?=some (.cells (cs.toList.take (off*s)++nv++cs.toList.drop (off*s+nv.length)).toArray T (0,0))):
  zcf C' (items.take off++mids++items.drop (off+m)) b 0 s:=by
 have h1:(off+m)*s<=items.length*s:=Nat.mul_le_mul_right _ hl
 rw[Nat.add_mul] at h1
 obtain⟨n1,a1,a2,a3,a4⟩:=zkc _ _ _ _ (zhl _ off _ _ _ hel)
 obtain⟨n3,c1,c2,c3,c4⟩:=zkc _ _ _ _ (zjc _ (off+m) _ _ _ hel)
 have l1:(items.take off).length=off:=by simp;omega
 have l3:(items.drop (off+m)).length=items.length-(off+m):=by simp
 rw[l1] at a1
 rw[l3,Nat.sub_mul,Nat.add_mul] at c1
 rw[zf0 hblk] at a2 c2
 refine zhb _ _ _ _ _ (zhb _ _ _ _ _ (a4 _ _ _ ?_ C' rfl hle) ?_) (c4 _ _ _ ?_ C' rfl hle)
 rw[zf0 hblk']
 intro j v hj
 have hlt:=(List.getElem?_eq_some_iff.1 hj).1
 have:=a2 j v hj
 rw[List.getElem?_toArray,List.append_assoc,List.getElem?_append_left (by simp;omega),List.getElem?_take]
 simp only[show 0+j<off*s by omega,if_true]
 simpa using this
 rw[l1,Nat.zero_add]
 refine hmid ?_
 rw[zf0 hblk']
 intro j v hj
 have hlt:=(List.getElem?_eq_some_iff.1 hj).1
 rw[List.getElem?_toArray,List.append_assoc,List.getElem?_append_right (by simp;omega),List.getElem?_append_left (by simp;omega),<-hj]
 congr 1
 simp
 omega
 have:0+(items.take off++mids).length*s=0+(off+m)*s:=by rw[zaq,l1,hm]
 rw[this,zf0 hblk']
 intro j v hj
 have hlt:=(List.getElem?_eq_some_iff.1 hj).1
 have:=c2 j v hj
 have l4:(cs.toList.take (off*s)++nv).length=off*s+nv.length:=by simp;omega
 rw[List.getElem?_toArray,List.getElem?_append_right (by rw[l4,hnv,Nat.add_mul];omega),List.getElem?_drop,l4,hnv,Nat.add_mul]
 rw[Nat.add_mul] at this
 rw[show off*s+m*s+(0+(off*s+m*s)+j-(off*s+m*s))=0+(off*s+m*s)+j by omega]
 simpa using this
section
variable {P : Program} {E : En} {n : Nat} {F : FrS} {a : Act} {w : World} {g : Gh} (hR : Rel E n F a w g)
include hR
omit hR in
theorem zpm:∀(l:List (Nat×Operand)) (k n:Nat),zo8 k n l=true->k+l.length=n/\l.map (·.1)=List.range' k l.length
 |[],k,n,h=>by simp only[zo8] at h;exact⟨nb h,rfl⟩
 |(i,x)::r,k,n,h=>by
  simp only[zo8,za0] at h
  obtain⟨h1,h2⟩:=zpm r (k+1) n h.2
  have:=nb h.1
  subst this
  refine⟨by simp;omega,by simp[List.range'_succ,h2]⟩
omit hR in
theorem zxq(s:Nat):∀(vs:List Value) (k:Nat) (cs:Array Value),(∀v∈vs,v.cells.size=s)->(k+vs.length)*s<=cs.size->
  ∃cs',Instr.fill (fun i=>some (i*s,s)) cs ((List.range' k vs.length).zip vs)=some cs'/\cs'.toList=cs.toList.take (k*s)++(vs.map (·.cells.toList)).flatten++cs.toList.drop ((k+vs.length)*s)
 |[],k,cs,_,_=>⟨cs,rfl,by simp⟩
 |v::vs,k,cs,hs,hl=>by
  have hv:=hs v (by simp)
  simp only[zak] at hl
  have h1:(k+1)*s<=cs.size:=zao (Nat.mul_le_mul_right _ (by omega)) hl
  have hz:v.cells.zipIdx=(v.cells.toList.zipIdx 0).toArray:=by apply Array.ext';simp
  have hfold:=zt8 v.cells.toList 0 (k*s) cs (by simp[hv];rw[Nat.succ_mul] at h1;omega)
  obtain⟨cs',hf,hc⟩:=zxq s vs (k+1) ((v.cells.zipIdx.foldl (fun cs (c,j)=>cs.setIfInBounds (k*s+j) c) cs)) (fun u hu=>hs u (by simp[hu])) (by
   have:(v.cells.zipIdx.foldl (fun cs (c,j)=>cs.setIfInBounds (k*s+j) c) cs).size=cs.size:=by
    rw[<-Array.length_toList,hz]
    simp only[List.foldl_toArray',List.size_toArray] at hfold ⊢
    rw[hfold]
    simp[hv];rw[Nat.succ_mul] at h1;omega
   rw[this];rwa [show k+1+vs.length=k+(vs.length+1) by omega])
  refine⟨cs',?_,?_⟩
  simp only[zak,List.range'_succ,List.zip_cons_cons,Instr.fill]
  rw[if_neg (by simp[hv];rw[Nat.succ_mul] at h1;omega)]
  exact hf
  rw[hc,hz]
  simp only[List.foldl_toArray',List.size_toArray] at hfold ⊢
  rw[hfold]
  simp only[Nat.add_zero,Array.length_toList,hv,zai,List.flatten_cons,zak]
  have e1:(k+1)*s=k*s+s:=Nat.succ_mul k s
  have l1:(cs.toList.take (k*s)).length=k*s:=by simp;omega
  have l2:v.cells.toList.length=s:=by simpa using hv
  have t1:(cs.toList.take (k*s)++v.cells.toList++cs.toList.drop (k*s+s)).take ((k+1)*s)=cs.toList.take (k*s)++v.cells.toList:=by
   rw[List.take_append_of_le_length (by simp;omega),List.take_of_length_le (by simp;omega)]
  have t2:(cs.toList.take (k*s)++v.cells.toList++cs.toList.drop (k*s+s)).drop ((k+1+vs.length)*s)=cs.toList.drop ((k+(vs.length+1))*s):=by
   have e2:(k+1+vs.length)*s=(k*s+s)+vs.length*s:=by rw[Nat.add_mul,e1]
   have dd:∀(l:List Value) (p q:Nat),l.drop (p+q)=(l.drop p).drop q:=fun l p q=>by rw[List.drop_drop]
   have l3:(cs.toList.take (k*s)++v.cells.toList).length=k*s+s:=by rw[zaq,l1,l2]
   rw[e2,dd,List.drop_append_of_le_length (Nat.le_of_eq l3.symm),zac (Nat.le_of_eq l3),zas,List.drop_drop]
   congr 1
   rw[show k+(vs.length+1)=k+1+vs.length by omega,Nat.add_mul,e1]
  rw[t1,t2]
  simp
omit hR in
theorem zuo{C:Cx}{s:Nat}(hs:s≠0):∀(ds:List D) (vs:List Value),reps C ds vs->(ds.all fun d=>Nat.beq d.cells.length s&&d.cells.all oneD)=true->(∀v∈vs,v.cells.size=s)/\∀v∈vs,v.cells.toList.all (·.oneCell')=true:=by
 intro ds
 induction ds with
 |nil=>intro vs h _;simp only[reps] at h;subst h;simp
 |cons d ds ih=>
  intro vs h ha
  simp only[reps] at h
  obtain⟨v,vs',rfl,hd,h⟩:=h
  simp only[List.all_cons,za0] at ha
  obtain⟨g1,g2⟩:=ih vs' h ha.2
  have hdl:=nb ha.1.1
  have hne:d.cells≠[]:=fun e=>by rw[e] at hdl;simp at hdl;omega
  have hsz:=zij hd hne
  refine⟨?_,?_⟩<;>intro u hu<;>rcases List.mem_cons.1 hu with rfl|hu
  rw[hsz,hdl]
  exact g1 u hu
  exact zlt (zlx hd hsz.symm) ha.1.2
  exact g2 u hu
omit hR in
theorem zod{t:TypeId}{ti:TI}{len:Nat}{ps:Array (Nat×Operand)}(ht:zd3 P t ti=true)(hk:ti.kind=3)(hi:zo8 0 len ps.toList=true)(hb:len*ti.esz<=16777216)
  (h1:∀v∈(ps.toList.map fun x=>a.eval x.2),v.cells.size=ti.esz):
  (Instr.buildSlice t len (ps.map fun(i,x)=>(i,a.eval x))).run P w=.ok (.slice (some ⟨w.heap.size,0,none⟩) len len) (w.alloc (.cells ((ps.toList.map fun x=>a.eval x.2).map (·.cells.toList)).flatten.toArray ti.el)):=by
 obtain⟨e,j,hu,hj,hj1,hj2,hj3,hj4,⟨z,hz,hzs,_⟩,hel⟩:=zcs ht hk
 subst hel
 obtain⟨hl,hm⟩:=zpm _ _ _ hi
 simp only[Nat.zero_add] at hl
 have hz0:∀(m:Nat),((Array.range m).map (z.cells[·%z.cells.size]!)).size=m:=by intro m;simp
 have hpar:(ps.map fun(i,x)=>(i,a.eval x)).toList=(List.range' 0 (ps.toList.map fun x=>a.eval x.2).length).zip (ps.toList.map fun x=>a.eval x.2):=by
  have zz:∀(l:List (Nat×Operand)),(l.map fun x=>(x.1,a.eval x.2))=(l.map (·.1)).zip (l.map fun x=>a.eval x.2):=by
   intro l
   induction l with
   |nil=>rfl
   |cons x l ih=>simp only[zai,List.zip_cons_cons,ih]
  have:=zz ps.toList
  rw[hm] at this
  simp only[Array.toList_map,List.length_map]
  exact this
 obtain⟨cs',hf,hcs⟩:=zxq ti.esz (ps.toList.map fun x=>a.eval x.2) 0 ((Array.range (len*ti.esz)).map (z.cells[·%z.cells.size]!)) h1 (by rw[hz0];simp[hl])
 have hcs2:cs'=((ps.toList.map fun x=>a.eval x.2).map (·.cells.toList)).flatten.toArray:=by
  apply Array.ext'
  rw[hcs]
  have:((Array.range (len*ti.esz)).map (z.cells[·%z.cells.size]!)).toList.drop ((0+(ps.toList.map fun x=>a.eval x.2).length)*ti.esz)=[]:=by
   apply zac
   simp[hl]
  rw[this]
  simp
 rw[<-hcs2]
 have hsz:(sizeOf ti.el).run P w=.ok ti.esz w:=by simp[sizeOf,typeInfo,hj,hj1]
 by_cases h0:len*ti.esz=0
 have hl0:len=0:=(Nat.mul_eq_zero.1 h0).resolve_right (by omega)
 subst hl0
 have hps:ps=#[]:=by apply Array.ext';exact zah hl
 subst hps
 simp only[Nat.zero_mul,Array.range_zero',Array.map_empty,List.map_nil,zbo,List.range'_zero,List.zip_nil_left,Instr.fill,za5] at hf
 subst hf
 simp[Instr.buildSlice,run_underlying hu,hsz,Instr.fill,newRow,Array.range_zero']
 simp only[Instr.buildSlice,Sem.run_bind,run_underlying hu,Result.andThen_ok,hsz]
 rw[if_neg (by omega),if_neg h0]
 simp only[zeroValue,typeInfo,Sem.run_bind,run_program,Result.andThen_ok,hj,hz,Sem.run_pure,hpar,hf]
 simp[newRow]
theorem ya1x{o:Oper}{t:TypeId}{ti:TI}{len:Nat}{ps:Array (Nat×Operand)}{ds:List D}{id:Nat}(hn:F.nu id=true)(ho:o.op=.buildSlice t len ps)(ht:zd3 P t ti=true)(hk:ti.kind=3)
  (hr:reps (cx w g F.hp) ds (ps.toList.map fun x=>a.eval x.2)) (hi:zo8 0 len ps.toList=true) (hb:len*ti.esz<=16777216)
  (hall:(ds.all fun d=>Nat.beq d.cells.length ti.esz&&d.cells.all oneD)=true):ze7 P E n a o (F.eff [(id,some (.arr ti.el ti.esz (D.idsL ds).isEmpty ds))] (id,id+1)) (.ref id ti.esz 0 ds.length (some ds.length)) w:=by
 obtain⟨e,j,hu,hj,hj1,hj2,hj3,hj4,_⟩:=zcs ht hk
 obtain⟨h1,h2⟩:=zuo (by omega) _ _ hr hall
 have hlen:=zdh _ _ hr
 simp only[List.length_map] at hlen
 obtain⟨hl,_⟩:=zpm _ _ _ hi
 have hll:len=ds.length:=by omega
 subst hll
 have hrun:=zod (w:=w) ht hk hi hb h1
 refine znx hR (e:=ti.el) (kl:=none) (oc:=some ds.length) (ncap:=ds.length) (rest:=[]) (cells:=((ps.toList.map fun x=>a.eval x.2).map (·.cells.toList)).flatten) (w1:=w) hn (Keep.refl _ w) rfl ?_ ?_ (za4 _) ?_ (fun c h _=>by cases h;rfl) ?_
 unfold execOp;simp only[ho];simp only[Sem.run_bind,hrun,Result.andThen_ok,Sem.run_pure,zag]
 rw[zta _ _ h1,zbo,Nat.add_zero,List.length_map];congr 1
 have:ds.length*1<=ds.length*ti.esz:=Nat.mul_le_mul_left _ (by omega)
 omega
 cases hids:(D.idsL ds).isEmpty
 exact zo1 hr h1 h2
 exact zo1 (zka _ _ (List.isEmpty_iff.1 hids) hr) h1 h2
theorem ya1y{o:Oper}{t:TypeId}{ti:TI}{len:Nat}{ps:Array (Nat×Operand)}{ds:List D}(ho:o.op=.buildSlice t len ps)(ht:zd3 P t ti=true)(hk:ti.kind=3)
  (hr:reps (cx w g F.hp) ds (ps.toList.map fun x=>a.eval x.2)) (hi:zo8 0 len ps.toList=true) (hb:len*ti.esz<=16777216) (hids:(D.idsL ds).isEmpty=true)
  (hall:(ds.all fun d=>Nat.beq d.cells.length ti.esz&&d.cells.all oneD)=true) (hlow:okML low3 ds=true):ze7 P E n a o (F.eff [] (0,0)) (.imm ti.esz (unfL ds) (bif okML new1 ds then 9 else 1)) w:=by
 obtain⟨e,j,hu,hj,hj1,hj2,hj3,hj4,_⟩:=zcs ht hk
 obtain⟨h1,h2⟩:=zuo (by omega) _ _ hr hall
 have hlen:=zdh _ _ hr
 simp only[List.length_map] at hlen
 obtain⟨hl,_⟩:=zpm _ _ _ hi
 have hll:len=ds.length:=by omega
 subst hll
 have hrun:=zod (w:=w) ht hk hi hb h1
 have hids:=List.isEmpty_iff.1 hids
 have hK:Keep (fun _=>False) w (w.alloc (.cells ((ps.toList.map fun x=>a.eval x.2).map (·.cells.toList)).flatten.toArray ti.el)):=Keep.alloc _ _ _
 have hle:=Rel.ext_le (g:=g) (F:=F) hK
 have hblk:(w.alloc (.cells ((ps.toList.map fun x=>a.eval x.2).map (·.cells.toList)).flatten.toArray ti.el)).heap[w.heap.size]?=some (.cells ((ps.toList.map fun x=>a.eval x.2).map (·.cells.toList)).flatten.toArray ti.el (0,0)):=heap_alloc_new w _
 rw[zml]
 refine⟨_,_,g,.inl (by unfold execOp;simp only[ho];simp only[Sem.run_bind,hrun,Result.andThen_ok,Sem.run_pure];rfl),?_,Rel.ext hR hK⟩
 have hnM:¬(cx (w.alloc (.cells ((ps.toList.map fun x=>a.eval x.2).map (·.cells.toList)).flatten.toArray ti.el)) g F.hp).M w.heap.size:=by
  intro h
  have:=hR.mem.own_lt h
  omega
 have hrange:=zfq hblk [] ((ps.toList.map fun x=>a.eval x.2).map (·.cells.toList)).flatten [] (by simp) rfl
 have hul:=zm5 ds
 have hcc:(bif okML new1 ds then 9 else 1)%8=1:=by cases okML new1 ds<;>rfl
 have key:∀(q:Nat->Bool) (Zt:Nat->Prop),(∀m,q m=true->∃Z,(cx w g F.hp).zone m=some Z/\∀b,¬(cx w g F.hp).M b->Z b->b<(cx w g F.hp).w.heap.size->Zt b)->okML q ds=true->
   zcf ((cx (w.alloc (.cells ((ps.toList.map fun x=>a.eval x.2).map (·.cells.toList)).flatten.toArray ti.el)) g F.hp).at Zt) (unfL ds) w.heap.size 0 ti.esz:=by
  intro q Zt hq hk
  have:=zkh hq ds _ hk hids hr
  refine zo1 this h1 h2 _ _ _ hrange _ rfl ?_
  exact Cx.Le.inner (C:=cx w g F.hp) (C':=cx _ g F.hp) hK.shp fun b g1 g2 g3=>⟨g1,g2,hK.block b g3 id⟩
 simp only[rep,hcc]
 refine⟨_,_,by rw[hul],by rw[hul];exact za4 _,?_,by simp,by simp,fun _=>by rw[hul],by simp,fun _=>rfl,?_⟩
 have:ds.length*1<=ds.length*ti.esz:=Nat.mul_le_mul_left _ (by omega)
 omega
 right
 intro Z' hZ'
 refine⟨_,rfl,rfl,hnM,?_,⟨by simp[cx],fun h=>by simp at h⟩,?_⟩
 cases hb:okML new1 ds
 rw[hb] at hZ'
 have:Z'=g.Z:=by simpa[Cx.zone,cx] using hZ'.symm
 subst this
 exact hR.mem.zs.z0 _ (za4 _)
 rw[hb] at hZ'
 obtain⟨Z1,k1,k2,k3⟩:=hR.mem.zs.z1
 have:Z'=Z1:=by
  have:g.zn 1=some Z':=by simpa[Cx.zone,cx] using hZ'
  rw[k1] at this
  exact(sj this).symm
 subst this
 exact k3 _ (za4 _)
 cases hb:okML new1 ds
 rw[hb] at hZ'
 have:Z'=g.Z:=by simpa[Cx.zone,cx] using hZ'.symm
 subst this
 exact key low3 g.Z hR.mem.low hlow
 rw[hb] at hZ'
 obtain⟨Z1,k1,k2,k3⟩:=hR.mem.zs.z1
 have:Z'=Z1:=by
  have:g.zn 1=some Z':=by simpa[Cx.zone,cx] using hZ'
  rw[k1] at this
  exact(sj this).symm
 subst this
 refine key new1 Z' ?_ hb
 intro m hm
 have hm:m=1:=nb hm
 subst hm
 exact⟨Z',k1,fun b _ h _=>h⟩
omit hR in
theorem Rel.wrote_le{w':World}{id:Nat}{blk:Blk}{b o:Nat}(hl:F.hp id≠none)(hs:g.σ id=some (b,o))(hK:Keep (fun k=>k=b) w w'):Cx.Le (cx w g F.hp) (cx w' g (effH F.hp [(id,some blk)])):=by
 have hp1:∀x,x≠id->effH F.hp [(id,some blk)] x=F.hp x:=by
  intro x hx
  have hb:Nat.beq id x=false:=zbq (fun e=>hx e.symm)
  simp[effH,getL,hb]
 have hne:∀x,effH F.hp [(id,some blk)] x≠none->F.hp x≠none:=by
  intro x h
  by_cases e:x=id
  subst e;exact hl
  rwa [hp1 x e] at h
 have hK':Keep (zty g F.hp fun k=>k=id) w w':=hK.mono fun k _ e=>by subst e;exact⟨id,o,rfl,hl,hs⟩
 refine Mem.le (g':=g) hK' rfl rfl (fun _ _=>rfl) ?_
 rintro b ⟨x,o',h1,h2⟩
 exact .inr ⟨x,o',hne x h1,h2⟩
theorem zsx{o:Oper}{d:D}{v:Value}{id e s off m b:Nat}{p q:Bool}{items mids:List D}{cs:Array Value}{nv:List Value}(hb:F.hp id=some (.arr e s p items))(hσ:g.σ id=some (b,0))(hblk:w.heap[b]?=some (.cells cs e (0,0)))
  (hsz:items.length*s<=cs.size) (hel:zcf {cx w g F.hp with rf:=!p} items b 0 s) (hl:off+m<=items.length) (hm:mids.length=m) (hnv:nv.length=m*s) (h1:nv.all (·.oneCell')=true) (hmid:Carry {cx w g F.hp with rf:=!q} mids s nv)
  (hrun:∀w',(storeCells ⟨b,off*s,none⟩ nv).run P w=.ok () w'->(execOp a.eval o).run P w=.ok (.value v) w') (hd:∀C,Cx.Le (cx w g F.hp) C->rep C d v):
  ze7 P E n a o (F.eff [(id,some (.arr e s (p&&q) (items.take off++mids++items.drop (off+m))))] (0,0)) d w:=by
 have hfit:off*s+nv.length<=cs.size:=by
  rw[hnv,<-Nat.add_mul];exact zao (Nat.mul_le_mul_right _ hl) hsz
 have hst:=run_storeCells_at P b (off*s) e nv 0 cs w hblk (by simpa using hfit) (List.all_eq_true.1 h1)
 simp only[Nat.add_zero] at hst
 have hszz:(cs.toList.take (off*s)++nv++cs.toList.drop (off*s+nv.length)).toArray.size=cs.size:=by simp;omega
 refine⟨v,_,g,.inl (hrun _ hst),hd _ (Rel.wrote_le (by rw[hb];simp) hσ (zj8 w b cs _ e _ hblk hszz)),Rel.wrote hR (by rw[hb];simp) hσ (zj8 w b cs _ e _ hblk hszz) ?_⟩
 intro C hC hle hrf hσC
 have hblkC:C.w.heap[b]?=some (.cells (cs.toList.take (off*s)++nv++cs.toList.drop (off*s+nv.length)).toArray e (0,0)):=by subst hC;exact setRow_heap w b cs _ e _ hblk
 refine .inr ⟨b,_,hσC,hblkC,?_,?_⟩
 rw[hszz]
 have:(items.take off++mids++items.drop (off+m)).length=items.length:=by simp;omega
 rw[this];exact hsz
 refine ya4j (zqo hle rfl _ _ (by cases p<;>cases q<;>simp)) hel hblk hl hsz hm hnv ?_ hblkC
 intro hr
 exact hmid _ _ _ hr _ rfl (zqo hle rfl _ _ (by cases p<;>cases q<;>simp))
theorem zqn{o:Oper}{d:D}{v:Value}{id e s off m b:Nat}{p q:Bool}{items mids:List D}{cs:Array Value}{nv:List Value}(hb:F.hp id=some (.arr e s p items))(hσ:g.σ id=some (b,0))(hblk:w.heap[b]?=some (.cells cs e (0,0)))
  (hsz:items.length*s<=cs.size) (hel:zcf {cx w g F.hp with rf:=!p} items b 0 s) (hl:off+m<=items.length) (hm:mids.length=m) (hnv:nv.length=m*s) (h1:nv.all (·.oneCell')=true) (hmid:Carry {cx w g F.hp with rf:=!q} mids s nv)
  (hrun:∀w',(storeCells ⟨b,off*s,none⟩ nv).run P w=.ok () w'->(execOp a.eval o).run P w=.ok (.value v) w') (hd:∀C,rep C d v):
  ze7 P E n a o (F.eff [(id,some (.arr e s (p&&q) (items.take off++mids++items.drop (off+m))))] (0,0)) d w:=
 zsx hR hb hσ hblk hsz hel hl hm hnv h1 hmid hrun fun C _=>hd C
end
end Go.Tm
