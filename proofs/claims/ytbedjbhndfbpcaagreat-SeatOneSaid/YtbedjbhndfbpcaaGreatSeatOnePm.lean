/- Texts of the proof. -/
import Derived.Test.YtbedjbhndfbpcaaGreatSeatOnePl
set_option linter.unusedVariables false
set_option linter.unusedSimpArgs false
namespace Go.Tm
open Go.RowKit Go.WideShapes
mutual
def wf:D->Prop
 |.int k n=>k.min<=n/\n<=k.max
 |.str l=>(l.length:Int)<=9223372036854775807
 |.imm _ l c=>(l.length:Int)<=9223372036854775807/\(c<8->wfL l)
 |.ref _ _ _ len _=>(len:Int)<=9223372036854775807
 |.agg l=>wfL l
 |.tuple l=>wfL l
 | _=>True
def wfL:List D->Prop
 |[]=>True
 |d::ds=>wf d/\wfL ds
end
mutual
theorem ya36{C:Cx}:∀(d:D) (v:Value),rep C d v->wf d
 |.int k n,v,h=>by simp only[rep] at h;simp only[wf];exact h.2
 |.str l,v,h=>by simp only[rep] at h;simp only[wf];exact h.2
 |.imm s l c,v,h=>by
  simp only[rep] at h;simp only[wf]
  obtain⟨a,cap,_,h1,h2,_,_,_,_,_,h3⟩:=h
  refine⟨by omega,fun hc=>?_⟩
  rcases h3 with rfl|h3
  simp only[wfL]
  obtain⟨_,_,_,_,_,_,he⟩:=h3 C.Z (by simp[Cx.zone,Nat.div_eq_of_lt hc])
  exact ya0r l _ _ _ he
 |.ref id s off len oc,v,h=>by
  simp only[rep] at h;simp only[wf]
  obtain⟨_,a,cap,_,h1,h2,_⟩:=h
  omega
 |.agg l,v,h=>by
  simp only[rep] at h;simp only[wf]
  obtain⟨cs,_,h⟩:=h
  exact zsd l cs h
 |.tuple l,v,h=>by
  simp only[rep] at h;simp only[wf]
  obtain⟨cs,_,h⟩:=h
  exact zsd l cs h
 |.bool _,_,_|.ptr _ _,_,_|.eptr _ _ _ _,_,_|.iptr _ _,_,_|.nilptr,_,_|.fn _ _,_,_|.nilfn,_,_|.iface _ _,_,_|.nilIface,_,_|.mref _,_,_|.nilmap,_,_|.when _ _,_,_|.sc,_,_|.undef,_,_=>by simp only[wf]
theorem zsd{C:Cx}:∀(l:List D) (vs:List Value),reps C l vs->wfL l
 |[],_,_=>by simp only[wfL]
 |d::ds,vs,h=>by
  simp only[reps] at h;simp only[wfL]
  obtain⟨v,vs',_,h1,h2⟩:=h
  exact⟨ya36 d v h1,zsd ds vs' h2⟩
theorem ya0r{C:Cx}:∀(l:List D) (b o s:Nat),zcf C l b o s->wfL l
 |[],b,o,s,h=>by simp only[wfL]
 |d::ds,b,o,s,h=>by
  simp only[zcf] at h
  obtain⟨⟨v,h1,_⟩,h2⟩:=h
  simp only[wfL]
  exact⟨ya36 d v h1,ya0r ds _ _ _ h2⟩
end
section
variable {P : Program} {tab : Nat -> TI}
theorem zwa{K:FuncId}{args:List D}{H:List (Nat×Blk)}{r:D}{eff:List (Nat×Option Blk)}{nw:Nat×Nat}(he:zrh P K)(h:wfL args->zbv P K args H r eff nw):zbv P K args H r eff nw:=
 ⟨he,fun fr w g hp nu vs a1 a2 a3 hvs=>(h (zsd _ _ hvs)).2 fr w g hp nu vs a1 a2 a3 hvs⟩
theorem zok{K:FuncId}{args:List D}{r:D}{eff:List (Nat×Option Blk)}{nw:Nat×Nat}(hr:r.ids=[])(hk:okM new1 r=true)(h:zbv P K args [] r eff nw):zbi P K args r:=by
 refine⟨h.1,fun w vs hG hvs=>?_⟩
 let g:Gh:=⟨fun _=>none,fun _=>True,fun m=>if m=1 then some (fun x=>w.heap.size<=x) else if m=2 then some (fun x=>x<w.heap.size) else none⟩
 have hM:Mem w.heap.size w g (fun _=>none) (fun _=>true):=by
  refine⟨(fun id blk h=>by cases h),fun id id' b o o' h=>absurd rfl h,fun id _=>⟨rfl,rfl⟩,⟨fun _ _=>trivial,⟨_,rfl,fun x hx=>⟨hx,trivial⟩,fun x hx=>hx⟩,⟨_,rfl,fun x hx=>⟨hx,trivial⟩⟩,?_,fun b hb=>by obtain⟨id,o,h1,_⟩:=hb;exact absurd rfl h1⟩,⟨za4 _,hG⟩⟩
  intro m Zm hm hz
  have:g.zn m=none:=by
   simp only[g]
   rw[if_neg (by omega),if_neg (by omega)]
  rw[this] at hz;cases hz
 have hle:Cx.Le (cx0 w w.heap.size) (cx w g fun _=>none):=by
  refine⟨fun m _ Z' hZ'=>⟨Z',hZ',fun b _ k2 k3=>⟨?_,k2,.refl k3⟩⟩,fun _ _=>rfl,fun _=>rfl,(fun x=>by cases x),(fun x=>by cases x)⟩
  rintro⟨id,o,h1,_⟩
  exact h1 rfl
 refine(h.2 w.heap.size w g (fun _=>none) (fun _=>true) vs hM (fun id b h=>by cases h) (fun _ _ _=>rfl) (zhr hle _ _ hvs)).mono ?_
 rintro e w' ⟨v,g',he,ha⟩
 refine⟨v,he,ha.keep.mono ?_,hk,?_⟩
 rintro i _ ⟨id,o,h1,_⟩
 exact h1 rfl
 refine zqd (C:=(cx w' g' (effH (fun _=>none) eff)).noref) (C':=cx0 w' w.heap.size) (q:=new1) ?_ (fun _ _=>rfl) rfl rfl r v hk (zpe r v hr ha.res)
 intro m hm Z' hZ'
 have hm:m=1:=nb hm
 subst hm
 refine⟨fun b=>w.heap.size<=b,?_,fun b _ k2 _=>⟨fun h=>h,?_,rfl⟩⟩
 show g'.zn 1=_
 rw[ha.gz.2]
 rfl
 have:(fun b=>w.heap.size<=b)=Z':=by simpa[Cx.zone,cx0] using hZ'
 rw[<-this];exact k2
theorem zzh(hT:zhz P tab){K:FuncId}{fn:Func}{c:Code}{args:List D}{r:D}(lim:Nat)(hf:P.funcs[K]?=some fn)(hb:fn.body=some c)(hname:fn.name≠ "runtime.NumGoroutine")(hr:r.ids=[])(hk:okM new1 r=true)(hlen:args.length<=fn.ntmps)
  (h:wfL args->Ok P lim fn.ntmps c ⟨zfj 0 args,[],0⟩ fun e st=>(e=.normal\/e=.ret)/\∃ds,resL tab st fn.results.toList=some (ds,true)/\resT ds=r):zbi P K args r:=by
 refine zok (eff:=[]) (nw:=(0,lim)) hr hk (zwa ⟨fn,hf,hname,by rw[hb];rfl⟩ fun hwf=>?_)
 refine ztu hT hf hb hname hlen (fun x hx=>by cases hx) ((h hwf).mono ?_)
 rintro e st ⟨h1,ds,h2,h3⟩
 exact⟨h1,ds,h2,h3,[],(fun i x h=>by cases h),rfl⟩
theorem zeh(hT:zhz P tab){K:FuncId}{fn:Func}{c:Code}{args:List D}{H:List (Nat×Blk)}{r:D}{eff:List (Nat×Option Blk)}{nw:Nat×Nat}(hf:P.funcs[K]?=some fn)(hb:fn.body=some c)(hname:fn.name≠ "runtime.NumGoroutine")(hlen:args.length<=fn.ntmps)
  (hE:∀x∈eff,x.1∈H.map (·.1)\/nw.1<=x.1/\x.1<nw.2)
  (h:wfL args->Ok P nw.2 fn.ntmps c ⟨zfj 0 args,H,nw.1⟩ fun e st=>(e=.normal\/e=.ret)/\∃ds,resL tab st fn.results.toList=some (ds,true)/\resT ds=r/\∃h2:List (Nat×Blk),(∀i x,getL h2 i=some x->getL st.heap i=some x)/\getL h2=effH (getL H) eff):zbv P K args H r eff nw:=
 zwa ⟨fn,hf,hname,by rw[hb];rfl⟩ fun hwf=>ztu hT hf hb hname hlen hE (h hwf)
end
theorem retH{tab:Nat->TI}{st:St}{rs:List ResultVar}{r:D}{H:List (Nat×Blk)}{eff:List (Nat×Option Blk)}(V:List Nat)(hr:zmq tab st rs r)(he:zf5 V st.heap=effL H eff):
  ∃ds,resL tab st rs=some (ds,true)/\resT ds=r/\∃h2:List (Nat×Blk),(∀i x,getL h2 i=some x->getL st.heap i=some x)/\getL h2=effH (getL H) eff:=by
 obtain⟨ds,h1,h2⟩:=hr.to
 exact⟨ds,h1,h2,zf5 V st.heap,fun i x h=>zam V _ i x h,by funext i;rw[he,zpo]⟩
def Wk(d d':D):Prop:=∀C v,rep C d v->rep C d' v
def WkL(l l':List D):Prop:=∀C vs,reps C l vs->reps C l' vs
theorem Wk.refl(d:D):Wk d d:=fun _ _ h=>h
theorem WkL.refl(l:List D):WkL l l:=fun _ _ h=>h
theorem WkL.cons{d d':D}{l l':List D}(h:Wk d d')(hl:WkL l l'):WkL (d::l) (d'::l'):=fun C vs hv=>by
 simp only[reps] at hv ⊢
 obtain⟨v,vs',e,h1,h2⟩:=hv
 exact⟨v,vs',e,h C v h1,hl C vs' h2⟩
theorem Wk.agg{l l':List D}(hl:WkL l l'):Wk (.agg l) (.agg l'):=fun C v hv=>by
 simp only[rep] at hv ⊢
 obtain⟨cs,e,h⟩:=hv
 exact⟨cs,e,hl C cs h⟩
theorem zc7{P:Program}{K:FuncId}{args args':List D}{r:D}(h:WkL args args')(hK:zbi P K args' r):zbi P K args r:=ya63 h hK
end Go.Tm
namespace Go.Tm
open Go.RowKit Go.WideShapes
end Go.Tm
namespace Go.Tm
open Go.RowKit Go.WideShapes
mutual
def pl:D->Bool
 |.bool _|.int _ _|.str _=>true
 |.agg l=>plL l
 | _=>false
def plL:List D->Bool
 |[]=>true
 |d::ds=>pl d&&plL ds
end
end Go.Tm
namespace Go.Tm
open Go.RowKit Go.WideShapes
end Go.Tm
namespace Go.Tm
open Go.RowKit Go.WideShapes
mutual
def D.ren(f:Nat->Nat):D->D
 |.agg l=>.agg (D.renL f l)
 |.ref id s off len oc=>.ref (f id) s off len oc
 |.ptr id off=>.ptr (f id) off
 |.eptr id s i off=>.eptr (f id) s i off
 |.mref id=>.mref (f id)
 |.tuple l=>.tuple (D.renL f l)
 |.fn g l=>.fn g (D.renL f l)
 |.iface t d=>.iface t (D.ren f d)
 |.when c d=>.when c (D.ren f d)
 |d=>d
def D.renL(f:Nat->Nat):List D->List D
 |[]=>[]
 |d::ds=>D.ren f d::D.renL f ds
end
def zsj(f:Nat->Nat):List (D×D)->List (D×D)
 |[]=>[]
 |x::xs=>(x.1.ren f,x.2.ren f)::zsj f xs
def Blk.ren(f:Nat->Nat):Blk->Blk
 |.box cells=>.box (D.renL f cells)
 |.arr e s p items=>.arr e s p (bif p then items else D.renL f items)
 |.map es=>.map (zsj f es)
def zw0:List (D×D)->List Nat
 |[]=>[]
 |x::xs=>x.1.ids++x.2.ids++zw0 xs
def Blk.ids:Blk->List Nat
 |.box cells=>D.idsL cells
 |.arr _ _ p items=>bif p then [] else D.idsL items
 |.map es=>zw0 es
structure Mv (f:Nat->Nat) (L:Nat->Prop) (C C':Cx):Prop where
 w:C'.w=C.w
 Z:C'.Z=C.Z
 zn:C'.zn=C.zn
 fl:C'.fl=C.fl
 rf:C'.rf=C.rf
 M:∀b,C'.M b->C.M b
 s:∀i,L i->C'.σ (f i)=C.σ i
theorem Mv.zone{f L C C'}(h:Mv f L C C')(m:Nat):C'.zone m=C.zone m:=by
 unfold Cx.zone;rw[h.Z,h.zn]
theorem Mv.inner{f L C C'}(h:Mv f L C C')(Z:Nat->Prop):(C.at Z).Le (C'.at Z):=
 Cx.Le.inner (fun _ _=>by rw[h.w]) fun b k1 k2 _=>⟨fun hm=>k1 (h.M b hm),k2,by rw[h.w]⟩
theorem Mv.noref{f:Nat->Nat}{L C C'}(h:Mv f L C C')(q:Bool):Mv f L {C with rf:=q} {C' with rf:=q}:=⟨h.w,h.Z,h.zn,h.fl,rfl,h.M,h.s⟩
mutual
theorem zrb{f:Nat->Nat}{L:Nat->Prop}{C C':Cx}(h:Mv f L C C'):∀(d:D) (v:Value),(∀i∈d.ids,L i)->rep C d v->rep C' (d.ren f) v
 |.bool b,v,_,hr=>by simpa only[rep,D.ren] using hr
 |.int k n,v,_,hr=>by simpa only[rep,D.ren] using hr
 |.str l,v,_,hr=>by simpa only[rep,D.ren] using hr
 |.agg l,v,hi,hr=>by
  simp only[rep,D.ren,D.ids] at hr hi ⊢
  obtain⟨cs,rfl,hc⟩:=hr
  exact⟨cs,rfl,zqc h l cs hi hc⟩
 |.imm s l c,v,_,hr=>by
  simp only[rep,D.ren] at hr ⊢
  obtain⟨a,cap,rfl,h1,h2,h3,h4,h5,h6,hfl,h7⟩:=hr
  refine⟨a,cap,rfl,h1,h2,h3,h4,h5,h6,fun x=>by rw[h.fl];exact hfl x,?_⟩
  rcases h7 with h7|h7
  exact .inl h7
  right
  intro Z' hZ'
  rw[h.zone] at hZ'
  obtain⟨a0,ha,hs,hM,hlo,hb,he⟩:=h7 Z' hZ'
  exact⟨a0,ha,hs,fun hm=>hM (h.M _ hm),hlo,by rw[h.w];exact hb,zh2 (h.inner Z') l _ _ _ (by show C'.w.heap[_]?=C.w.heap[_]?;rw[h.w]) he⟩
 |.ref id s off len oc,v,hi,hr=>by
  simp only[rep,D.ren,D.ids,List.mem_singleton,forall_eq] at hr hi ⊢
  obtain⟨h0,a,cap,rfl,h1,h2,h3,hoc,h4⟩:=hr
  have hs:=h.s id hi
  refine⟨by rw[h.rf];exact h0,a,cap,rfl,h1,h2,h3,⟨hoc.1,fun ho=>?_⟩,?_⟩
  obtain⟨b,T,n,k1,k2,k3⟩:=hoc.2 ho
  exact⟨b,T,n,by rw[hs];exact k1,by rw[h.w];exact k2,k3⟩
  rcases h4 with h4|⟨b,T,n,k1,k2,k3,k4⟩
  exact .inl h4
  exact .inr ⟨b,T,n,by rw[hs];exact k1,k2,by rw[h.w];exact k3,k4⟩
 |.ptr id off,v,hi,hr=>by
  simp only[rep,D.ren,D.ids,List.mem_singleton,forall_eq] at hr hi ⊢
  obtain⟨h0,b,o,hσ,rfl⟩:=hr
  exact⟨by rw[h.rf];exact h0,b,o,by rw[h.s id hi];exact hσ,rfl⟩
 |.eptr id s i off,v,hi,hr=>by
  simp only[rep,D.ren,D.ids,List.mem_singleton,forall_eq] at hr hi ⊢
  obtain⟨h0,hs0,b,o,hσ,rfl⟩:=hr
  exact⟨by rw[h.rf];exact h0,hs0,b,o,by rw[h.s id hi];exact hσ,rfl⟩
 |.iptr m l,v,_,hr=>by
  simp only[rep,D.ren] at hr ⊢
  obtain⟨a0,rfl,hs,hfl,hr⟩:=hr
  refine⟨a0,rfl,hs,fun x=>by rw[h.fl];exact hfl x,?_⟩
  rcases hr with hr|hr
  exact .inl hr
  right
  intro Z' hZ'
  rw[h.zone] at hZ'
  obtain⟨hM,hlo,hb,he⟩:=hr Z' hZ'
  exact⟨fun hm=>hM (h.M _ hm),hlo,by rw[h.w];exact hb,ztp (h.inner Z') l _ _ (by show C'.w.heap[_]?=C.w.heap[_]?;rw[h.w]) he⟩
 |.nilptr,v,_,hr=>by simpa only[rep,D.ren] using hr
 |.tuple l,v,hi,hr=>by
  simp only[rep,D.ren,D.ids] at hr hi ⊢
  obtain⟨cs,rfl,hc⟩:=hr
  exact⟨cs,rfl,zqc h l cs hi hc⟩
 |.fn g l,v,hi,hr=>by
  simp only[rep,D.ren,D.ids] at hr hi ⊢
  obtain⟨cs,rfl,hc⟩:=hr
  exact⟨cs,rfl,zqc h l cs hi hc⟩
 |.nilfn,v,_,hr=>by simpa only[rep,D.ren] using hr
 |.iface t d,v,hi,hr=>by
  simp only[rep,D.ren,D.ids] at hr hi ⊢
  obtain⟨x,rfl,hx⟩:=hr
  exact⟨x,rfl,zrb h d x hi hx⟩
 |.nilIface,v,_,hr=>by simpa only[rep,D.ren] using hr
 |.mref id,v,hi,hr=>by
  simp only[rep,D.ren,D.ids,List.mem_singleton,forall_eq] at hr hi ⊢
  obtain⟨h0,b,o,hσ,rfl⟩:=hr
  exact⟨by rw[h.rf];exact h0,b,o,by rw[h.s id hi];exact hσ,rfl⟩
 |.nilmap,v,_,hr=>by simpa only[rep,D.ren] using hr
 |.sc,v,_,hr=>by simpa only[rep,D.ren] using hr
 |.when c d,v,hi,hr=>by
  simp only[rep,D.ren,D.ids] at hr hi ⊢
  exact⟨fun hc=>zrb h d v hi (hr.1 hc),hr.2⟩
 |.undef,v,_,_=>by simp only[rep,D.ren]
theorem zqc{f:Nat->Nat}{L:Nat->Prop}{C C':Cx}(h:Mv f L C C'):∀(l:List D) (vs:List Value),(∀i∈D.idsL l,L i)->reps C l vs->reps C' (D.renL f l) vs
 |[],vs,_,hr=>by simpa only[reps,D.renL] using hr
 |d::ds,vs,hi,hr=>by
  simp only[reps,D.renL,D.idsL,List.mem_append] at hr hi ⊢
  obtain⟨v,vs',rfl,h1,h2⟩:=hr
  exact⟨v,vs',rfl,zrb h d v (fun i k=>hi i (.inl k)) h1,zqc h ds vs' (fun i k=>hi i (.inr k)) h2⟩
end
theorem ya0t{f:Nat->Nat}{L:Nat->Prop}{C C':Cx}(h:Mv f L C C'):∀(l:List D) (b o s:Nat),(∀i∈D.idsL l,L i)->zcf C l b o s->zcf C' (D.renL f l) b o s
 |[],_,_,_,_,_=>by simp only[zcf,D.renL]
 |d::ds,b,o,s,hi,hr=>by
  simp only[zcf,D.renL,D.idsL,List.mem_append] at hr hi ⊢
  obtain⟨⟨v,h1,h2,h2',h3⟩,h4⟩:=hr
  exact⟨⟨v,zrb h d v (fun i k=>hi i (.inl k)) h1,h2,h2',by rw[h.w];exact h3⟩,ya0t h ds b (o+s) s (fun i k=>hi i (.inr k)) h4⟩
theorem ya4h{f:Nat->Nat}{L:Nat->Prop}{C C':Cx}(h:Mv f L C C'):∀(l:List (D×D)) (es:List MapEntry),(∀i∈zw0 l,L i)->zey C l es->zey C' (zsj f l) es
 |[],es,_,hr=>by simpa only[zey,zsj] using hr
 |x::xs,es,hi,hr=>by
  simp only[zey,zsj,zw0,List.mem_append] at hr hi ⊢
  obtain⟨e,es',rfl,⟨h1,h2⟩,h3⟩:=hr
  exact⟨e,es',rfl,⟨zrb h _ _ (fun i k=>hi i (.inl (.inl k))) h1,zrb h _ _ (fun i k=>hi i (.inl (.inr k))) h2⟩,ya4h h xs es' (fun i k=>hi i (.inr k)) h3⟩
theorem ya0l{f:Nat->Nat}{L:Nat->Prop}{C C':Cx}(h:Mv f L C C'){id:Nat}{blk:Blk}(hid:L id)(hi:∀i∈blk.ids,L i)(hr:holds C id blk):holds C' (f id) (blk.ren f):=by
 have hs:=h.s id hid
 cases blk with
 |box cells=>
  obtain⟨b,cs,T,h1,h2,h3,h4⟩:=hr
  exact⟨b,cs,T,by rw[hs];exact h1,by rw[h.w];exact h2,zqc h _ _ hi h3,h4⟩
 |arr e s p items=>
  rcases hr with⟨h1,h2⟩|⟨b,cs,h1,h2,h3,h4⟩
  left
  refine⟨?_,by rw[hs];exact h2⟩
  subst h1;cases p<;>rfl
  right
  refine⟨b,cs,by rw[hs];exact h1,by rw[h.w];exact h2,?_⟩
  cases p with
  |true=>
   refine⟨h3,?_⟩
   refine zh2 (C:={C with rf:=!true}) (C':={C' with rf:=!true}) ⟨fun m _ Z' hZ'=>?_,fun _ _=>by rw[h.w],fun hf=>by show C'.fl=true;rw[h.fl];exact hf,(fun hf=>by cases hf),(fun hf=>by cases hf)⟩ _ _ _ _ (by rw[h.w]) h4
   have hZ2:C.zone m=some Z':=by rw[<-h.zone];exact hZ'
   exact⟨Z',hZ2,fun b k1 k2 k3=>⟨fun hm=>k1 (h.M b hm),k2,by rw[h.w];exact .refl k3⟩⟩
  |false=>
   simp only[cond_false]
   have hl:∀l:List D,(D.renL f l).length=l.length:=by intro l;induction l with|nil=>rfl|cons d ds ih=>simp only[D.renL,zak,ih]
   exact⟨by rw[hl];exact h3,ya0t (h.noref _) _ _ _ _ (by simpa only[Blk.ids,cond_false] using hi) h4⟩
 |map es=>
  obtain⟨b,ens,clock,h1,h2,h3⟩:=hr
  exact⟨b,ens,clock,by rw[hs];exact h1,by rw[h.w];exact h2,ya4h h _ _ hi h3⟩
def mvF(ps:List (Nat×Nat))(i:Nat):Nat:=match getL ps i with
 |some j=>j
 |none=>i
def mvV(f:Nat->Nat):List (Nat×D)->List (Nat×D)
 |[]=>[]
 |(t,d)::r=>(t,d.ren f)::mvV f r
def mvH(f:Nat->Nat):List (Nat×Blk)->List (Nat×Blk)
 |[]=>[]
 |(i,b)::r=>(f i,b.ren f)::mvH f r
def idsV:List (Nat×D)->List Nat
 |[]=>[]
 |(_,d)::r=>d.ids++idsV r
def idsH:List (Nat×Blk)->List Nat
 |[]=>[]
 |(i,b)::r=>i::(b.ids++idsH r)
def mvOk(ps:List (Nat×Nat))(n0 n1:Nat):List Nat->Bool
 |[]=>true
 |i::r=>(bif Nat.blt i n0 then Nat.beq (mvF ps i) i||(Nat.ble n0 (mvF ps i)&&Nat.blt (mvF ps i) n1) else Nat.ble n0 (mvF ps i)&&Nat.blt (mvF ps i) n1)&&(r.all fun j=>Nat.beq i j||!(Nat.beq (mvF ps i) (mvF ps j)))&&mvOk ps n0 n1 r
theorem ya3p{ps:List (Nat×Nat)}{n0 n1:Nat}:∀{l:List Nat},mvOk ps n0 n1 l=true->(∀i∈l,(mvF ps i=i/\i<n0)\/(n0<=mvF ps i/\mvF ps i<n1))/\∀i∈l,∀j∈l,mvF ps i=mvF ps j->i=j
 |[],_=>⟨(fun _ h=>by cases h),(fun _ h=>by cases h)⟩
 |i::r,h=>by
  simp only[mvOk,za0] at h
  obtain⟨⟨h1,h2⟩,h3⟩:=h
  obtain⟨k1,k2⟩:=ya3p h3
  have e1:(mvF ps i=i/\i<n0)\/(n0<=mvF ps i/\mvF ps i<n1):=by
   cases hb:Nat.blt i n0
   rw[hb] at h1
   simp only[cond_false,za0] at h1
   exact .inr ⟨lb h1.1,lb h1.2⟩
   rw[hb] at h1
   simp only[cond_true,zau,za0] at h1
   rcases h1 with h1|h1
   exact .inl ⟨nb h1,lb hb⟩
   exact .inr ⟨lb h1.1,lb h1.2⟩
  have e2:∀j∈r,mvF ps i=mvF ps j->i=j:=by
   intro j hj he
   have:=List.all_eq_true.1 h2 j hj
   simp only[zau,Bool.not_eq_true'] at this
   rcases this with h|h
   exact nb h
   rw[he,Nat.beq_refl] at h;cases h
  refine⟨fun x hx=>?_,fun x hx y hy he=>?_⟩
  rcases List.mem_cons.1 hx with rfl|hx
  exact e1
  exact k1 x hx
  rcases List.mem_cons.1 hx with hx|hx<;>rcases List.mem_cons.1 hy with hy|hy
  rw[hx,hy]
  rw[hx] at he ⊢;exact e2 y hy he
  rw[hy] at he ⊢;exact(e2 x hx he.symm).symm
  exact k2 x hx y hy he
theorem ya0n{f:Nat->Nat}:∀(l:List (Nat×D)) (t:Nat),getL (mvV f l) t=(getL l t).map (D.ren f)
 |[],_=>rfl
 |(a,d)::r,t=>by
  simp only[mvV,getL]
  cases Nat.beq a t
  simp only[cond_false];exact ya0n r t
  rfl
theorem ya0d:∀{l:List (Nat×D)} {t:Nat} {d:D},getL l t=some d->∀i∈d.ids,i∈idsV l
 |(a,x)::r,t,d,h,i,hi=>by
  simp only[getL] at h
  simp only[idsV,List.mem_append]
  cases hb:Nat.beq a t
  rw[hb] at h;exact .inr (ya0d h i hi)
  rw[hb] at h;cases h;exact .inl hi
theorem ya0e:∀{l:List (Nat×Blk)} {t:Nat} {b:Blk},getL l t=some b->t∈idsH l/\∀i∈b.ids,i∈idsH l
 |(a,x)::r,t,b,h=>by
  simp only[getL] at h
  simp only[idsH,List.mem_cons,List.mem_append]
  cases hb:Nat.beq a t
  rw[hb] at h
  obtain⟨h1,h2⟩:=ya0e h
  exact⟨.inr (.inr h1),fun i hi=>.inr (.inr (h2 i hi))⟩
  rw[hb] at h;cases h
  exact⟨.inl (nb hb).symm,fun i hi=>.inr (.inl hi)⟩
theorem ya0o{f:Nat->Nat}:∀(l:List (Nat×Blk)),(∀i∈idsH l,∀j∈idsH l,f i=f j->i=j)->∀(t:Nat) (b:Blk),getL (mvH f l) t=some b->∃i b0,getL l i=some b0/\f i=t/\b=b0.ren f
 |[],_,_,_,h=>by cases h
 |(a,x)::r,hinj,t,b,h=>by
  simp only[mvH,getL] at h
  cases hb:Nat.beq (f a) t
  rw[hb] at h
  obtain⟨i,b0,h1,h2,h3⟩:=ya0o r (fun i hi j hj=>hinj i (by simp[idsH,hi]) j (by simp[idsH,hj])) t b h
  refine⟨i,b0,?_,h2,h3⟩
  simp only[getL]
  cases hc:Nat.beq a i
  exact h1
  have:=nb hc
  subst this
  rw[h2] at hb
  simp at hb
  rw[hb] at h
  cases h
  exact⟨a,x,by simp[getL],nb hb,rfl⟩
section
variable {E : En} {n lim : Nat} {F : FrS} {a : Act} {w : World} {g : Gh} {st : St}
theorem Rel.move(hF:F.on lim st)(h:Rel E n F a w g)(ps:List (Nat×Nat))(n0 n1:Nat)(hn0:n0<=n1)(hn1:n1<=lim)(hE:∀id,n0<=id->id<lim->E.nu0 id=true)(hok:mvOk ps n0 n1 (idsV st.vars++idsH st.heap)=true):
  ∃F' g',F'.on lim ⟨mvV (mvF ps) st.vars,mvH (mvF ps) st.heap,n1⟩/\Rel E n F' a w g':=by
 obtain⟨h1,h2,h3⟩:=hF
 obtain⟨hp,hinj⟩:=ya3p hok
 let L:Nat->Prop:=fun i=>i∈idsV st.vars++idsH st.heap
 classical
 let σ':Nat->Option (Nat×Nat):=fun j=>if n0<=j/\j<lim then(if hx:∃i,L i/\mvF ps i=j then g.σ hx.choose else none) else g.σ j
 have hs:∀i,L i->σ' (mvF ps i)=g.σ i:=by
  intro i hi
  show(if _ then _ else _)=_
  rcases hp i hi with⟨k1,k2⟩|⟨k1,k2⟩
  rw[if_neg (by rw[k1];omega),k1]
  rw[if_pos ⟨k1,by omega⟩]
  have hx:∃i',L i'/\mvF ps i'=mvF ps i:=⟨i,hi,rfl⟩
  rw[dif_pos hx,hinj _ hx.choose_spec.1 _ hi hx.choose_spec.2]
 let g':Gh:=⟨σ',g.Z,g.zn⟩
 let hp':Nat->Option Blk:=getL (mvH (mvF ps) st.heap)
 have hH:∀id blk,hp' id=some blk->∃i b0,getL st.heap i=some b0/\mvF ps i=id/\blk=b0.ren (mvF ps)/\L i/\∀k∈b0.ids,L k:=by
  intro id blk hb
  obtain⟨i,b0,e1,e2,e3⟩:=ya0o st.heap (fun i hi j hj=>hinj i (List.mem_append_right _ hi) j (List.mem_append_right _ hj)) id blk hb
  obtain⟨m1,m2⟩:=ya0e e1
  exact⟨i,b0,e1,e2,e3,List.mem_append_right _ m1,fun k hk=>List.mem_append_right _ (m2 k hk)⟩
 have hlive:∀id,hp' id≠none->∃i,F.hp i≠none/\mvF ps i=id/\L i:=by
  intro id hid
  obtain⟨b,hb⟩:=Option.ne_none_iff_exists'.1 hid
  obtain⟨i,b0,e1,e2,_,e4,_⟩:=hH id b hb
  exact⟨i,by rw[h2,e1];simp,e2,e4⟩
 have hM:∀b,ownB g' hp' b->ownB g F.hp b:=by
  rintro b ⟨id,o,k1,k2⟩
  obtain⟨i,e1,rfl,e3⟩:=hlive id k1
  have k2:σ' (mvF ps i)=some (b,o):=k2
  rw[hs i e3] at k2
  exact⟨i,o,e1,k2⟩
 have hmv:Mv (mvF ps) L (cx w g F.hp) (cx w g' hp'):=⟨rfl,rfl,rfl,rfl,rfl,hM,hs⟩
 let nu':Nat->Bool:=fun id=>decide (n1<=id)&&decide (id<lim)
 refine⟨⟨getR (mvV (mvF ps) st.vars),hp',nu'⟩,g',⟨rfl,rfl,fun id k1 k2=>by simp[nu',show n1<=id from k1,k2]⟩,⟨h.sz,h.df,fun t=>?_,?_,?_,h.keep,h.gz,?_,?_⟩⟩
 have hr:=h.rd t
 show rep (cx w g' hp') (getR (mvV (mvF ps) st.vars) t) _
 rw[h1] at hr
 unfold getR at hr ⊢
 rw[ya0n]
 cases hg:getL st.vars t with
 |none=>simp only[Option.map_none,rep]
 |some d=>
  rw[hg] at hr
  exact zrb hmv d _ (fun i hi=>List.mem_append_left _ (ya0d hg i hi)) hr
 refine⟨fun id blk hb=>?_,fun id id' b o o' k1 k2 k3 k4=>?_,fun id hid=>?_,?_,h.mem.fl⟩
 obtain⟨i,b0,e1,rfl,rfl,e4,e5⟩:=hH id blk hb
 exact ya0l hmv e4 e5 (h.mem.hd i b0 (by rw[h2];exact e1))
 obtain⟨i,e1,rfl,e3⟩:=hlive id k1
 obtain⟨i',e1',rfl,e3'⟩:=hlive id' k2
 have k3:σ' (mvF ps i)=some (b,o):=k3
 have k4:σ' (mvF ps i')=some (b,o'):=k4
 rw[hs i e3] at k3
 rw[hs i' e3'] at k4
 rw[h.mem.inj i i' b o o' e1 e1' k3 k4]
 simp only[nu',za0,decide_eq_true_eq] at hid
 have hno:¬∃i,L i/\mvF ps i=id/\n0<=id:=by
  rintro⟨i,e1,rfl,e3⟩
  rcases hp i e1 with⟨e4,e5⟩|⟨_,e5⟩<;>omega
 by_cases hb:n0<=id
 refine⟨?_,?_⟩
 show(if _ then _ else _)=_
 rw[if_pos ⟨hb,hid.2⟩,dif_neg (fun⟨i,e1,e2⟩=>hno ⟨i,e1,e2,hb⟩)]
 cases hh:hp' id with
 |none=>exact hh
 |some blk=>
  obtain⟨i,b0,_,e2,_,e4,_⟩:=hH id blk hh
  exact absurd ⟨i,e4,e2,hb⟩ hno
 omega
 refine⟨h.mem.zs.z0,h.mem.zs.z1,h.mem.zs.z2,fun m Zm hm hz b hb=>?_,fun b hb=>h.mem.zs.zo b (hM b hb)⟩
 obtain⟨e1,e2,e3,e4,e5⟩:=h.mem.zs.zr m Zm hm hz b hb
 exact⟨e1,e2,e3,fun hx=>e4 (hM b hx),e5⟩
 intro id b o k1 k2
 obtain⟨i,e1,rfl,e3⟩:=hlive id k1
 have k2:σ' (mvF ps i)=some (b,o):=k2
 rw[hs i e3] at k2
 exact h.base i b o e1 k2
 intro id hid
 show(if _ then _ else _)=_
 rw[if_neg fun⟨k1,k2⟩=>by rw[hE id k1 k2] at hid;cases hid]
 exact h.gs id hid
 intro id hid
 simp only[nu',za0,decide_eq_true_eq] at hid
 by_cases hb:n0<=id
 exact hE id hb hid.2
 omega
end
def MvTo(lim n0:Nat)(V H:List Nat)(ps:List (Nat×Nat))(st s:St):Prop:=
 (⟨mvV (mvF ps) (zf5 V st.vars),mvH (mvF ps) (zf5 H st.heap),s.nx⟩:St)=s/\n0<=s.nx/\s.nx<=lim/\mvOk ps n0 s.nx (idsV (zf5 V st.vars)++idsH (zf5 H st.heap))=true
theorem Rel.mvTo{E:En}{n lim n0:Nat}{F:FrS}{a:Act}{w:World}{g:Gh}{st s:St}{V H:List Nat}{ps:List (Nat×Nat)}(hF:F.on lim st)(h:Rel E n F a w g)(hE:∀id,n0<=id->id<lim->E.nu0 id=true)(hm:MvTo lim n0 V H ps st s):
  ∃F' g',F'.on lim s/\Rel E n F' a w g':=by
 obtain⟨h1,h2,h3,h4⟩:=hm
 obtain⟨F1,hF1,hR1⟩:=h.sub hF (ya8a V H st (nx:=st.nx) (za4 _))
 obtain⟨F2,g2,hF2,hR2⟩:=hR1.move hF1 ps n0 s.nx h2 h3 hE h4
 rw[h1] at hF2
 exact⟨F2,g2,hF2,hR2⟩
abbrev uC:Nat:=9223372036854775808
theorem Wk.unk(id s off len:Nat)(oc:Option Nat):Wk (.ref id s off len oc) (.ref id s off len (some uC)):=fun _ _ h=>zyj h rfl
section
variable {π : Nat -> Nat}
mutual
theorem zvn(hπ:∀i,π (π i)=i):∀d:D,(d.ren π).ren π=d
 |.agg l=>by simp only[D.ren,zkl hπ l]
 |.ref id s off len oc=>by simp only[D.ren,hπ]
 |.ptr id off=>by simp only[D.ren,hπ]
 |.eptr id s i off=>by simp only[D.ren,hπ]
 |.mref id=>by simp only[D.ren,hπ]
 |.tuple l=>by simp only[D.ren,zkl hπ l]
 |.fn g l=>by simp only[D.ren,zkl hπ l]
 |.iface t d=>by simp only[D.ren,zvn hπ d]
 |.when c d=>by simp only[D.ren,zvn hπ d]
 |.bool _|.int _ _|.str _|.imm _ _ _|.iptr _ _|.nilptr|.nilfn|.nilIface|.nilmap|.sc|.undef=>by simp only[D.ren]
theorem zkl(hπ:∀i,π (π i)=i):∀l:List D,D.renL π (D.renL π l)=l
 |[]=>by simp only[D.renL]
 |d::ds=>by simp only[D.renL,zvn hπ d,zkl hπ ds]
end
theorem zsh(hπ:∀i,π (π i)=i):∀l:List (D×D),zsj π (zsj π l)=l
 |[]=>by simp only[zsj]
 |x::xs=>by simp only[zsj,zvn hπ,zsh hπ xs]
theorem ztx(hπ:∀i,π (π i)=i):∀b:Blk,(b.ren π).ren π=b
 |.box _=>by simp only[Blk.ren,zkl hπ]
 |.arr _ _ true _=>by simp only[Blk.ren,cond_true]
 |.arr _ _ false _=>by simp only[Blk.ren,cond_false,zkl hπ]
 |.map _=>by simp only[Blk.ren,zsh hπ]
theorem ya9v(hπ:∀i,π (π i)=i){i j:Nat}(h:π i=π j):i=j:=by rw[<-hπ i,h,hπ]
def ya1j(π:Nat->Nat)(g:Gh):Gh:=⟨fun i=>g.σ (π i),g.Z,g.zn⟩
def zpg(π:Nat->Nat)(hp:Nat->Option Blk):Nat->Option Blk:=fun i=>(hp (π i)).map (Blk.ren π)
theorem zpf{hp:Nat->Option Blk}{i:Nat}:zpg π hp i≠none↔hp (π i)≠none:=by simp[zpg]
theorem zpi(hπ:∀i,π (π i)=i){g:Gh}{hp:Nat->Option Blk}{b:Nat}:ownB (ya1j π g) (zpg π hp) b↔ownB g hp b:=by
 constructor
 rintro⟨id,o,h1,h2⟩
 exact⟨π id,o,zpf.1 h1,h2⟩
 rintro⟨id,o,h1,h2⟩
 exact⟨π id,o,by rw[zpf,hπ];exact h1,by show g.σ (π (π id))=_;rw[hπ];exact h2⟩
theorem ya3o(hπ:∀i,π (π i)=i)(w:World)(g:Gh)(hp:Nat->Option Blk):Mv π (fun _=>True) (cx w g hp) (cx w (ya1j π g) (zpg π hp)):=
 ⟨rfl,rfl,rfl,rfl,rfl,fun _ h=>(zpi hπ).1 h,fun i _=>by show g.σ (π (π i))=g.σ i;rw[hπ]⟩
theorem Mem.ren(hπ:∀i,π (π i)=i){fr:Nat}{w:World}{g:Gh}{hp:Nat->Option Blk}{nu nu':Nat->Bool}(h:Mem fr w g hp nu)(hnu:∀id,nu' id=true->nu (π id)=true):Mem fr w (ya1j π g) (zpg π hp) nu':=by
 refine⟨fun id blk hb=>?_,fun id id' b o o' k1 k2 k3 k4=>?_,fun id hid=>?_,?_,h.fl⟩
 unfold zpg at hb
 cases hx:hp (π id) with
 |none=>rw[hx] at hb;cases hb
 |some b0=>
  rw[hx] at hb
  cases hb
  have:=ya0l (ya3o hπ w g hp) (id:=π id) (blk:=b0) trivial (fun _ _=>trivial) (h.hd _ _ hx)
  rwa [hπ] at this
 exact ya9v hπ (h.inj (π id) (π id') b o o' (zpf.1 k1) (zpf.1 k2) k3 k4)
 obtain⟨h1,h2⟩:=h.nw (π id) (hnu id hid)
 exact⟨h1,by simp[zpg,h2]⟩
 refine⟨h.zs.z0,h.zs.z1,h.zs.z2,fun m Zm hm hz b hb=>?_,fun b hb=>h.zs.zo b ((zpi hπ).1 hb)⟩
 obtain⟨e1,e2,e3,e4,e5⟩:=h.zs.zr m Zm hm hz b hb
 exact⟨e1,e2,e3,fun hx=>e4 ((zpi hπ).1 hx),e5⟩
def renE(π:Nat->Nat):List (Nat×Option Blk)->List (Nat×Option Blk)
 |[]=>[]
 |(i,some b)::r=>(π i,some (b.ren π))::renE π r
 |(i,none)::r=>(π i,none)::renE π r
theorem zxl(hπ:∀i,π (π i)=i):∀(l:List (Nat×Option Blk)) (i:Nat),getL (renE π l) i=(getL l (π i)).map (Option.map (Blk.ren π))
 |[],_=>rfl
 |(a,x)::r,i=>by
  have ih:=zxl hπ r i
  have hb:Nat.beq (π a) i=Nat.beq a (π i):=by
   by_cases e:π a=i
   subst e;rw[hπ];simp
   rw[zbq e,zbq (fun e'=>e (by rw[e',hπ]))]
  cases x<;>simp only[renE,getL,hb,ih]<;>cases Nat.beq a (π i)<;>rfl
theorem zt5(hπ:∀i,π (π i)=i):∀(l:List (Nat×Blk)) (i:Nat),getL (mvH π l) i=(getL l (π i)).map (Blk.ren π)
 |[],_=>rfl
 |(a,x)::r,i=>by
  have ih:=zt5 hπ r i
  have hb:Nat.beq (π a) i=Nat.beq a (π i):=by
   by_cases e:π a=i
   subst e;rw[hπ];simp
   rw[zbq e,zbq (fun e'=>e (by rw[e',hπ]))]
  simp only[mvH,getL,hb,ih]
  cases Nat.beq a (π i)<;>rfl
theorem zq0(hπ:∀i,π (π i)=i){P:Program}{K:FuncId}{args:List D}{H:List (Nat×Blk)}{r:D}{eff:List (Nat×Option Blk)}{nw:Nat×Nat}(nw':Nat×Nat)(hnw:∀id,nw.1<=id->id<nw.2->nw'.1<=π id/\π id<nw'.2)(h:zbv P K args H r eff nw):
  zbv P K (D.renL π args) (mvH π H) (r.ren π) (renE π eff) nw':=by
 refine⟨h.1,fun fr w g hp nu vs hM hH hn hvs=>?_⟩
 have hmv:=ya3o hπ w g hp
 have hargs:=zqc hmv _ _ (fun _ _=>trivial) hvs
 rw[zkl hπ] at hargs
 have hM1:Mem fr w (ya1j π g) (zpg π hp) (fun i=>nu (π i)):=hM.ren hπ fun _ h=>h
 refine(h.2 fr w (ya1j π g) (zpg π hp) (fun i=>nu (π i)) vs hM1 (fun id b hb=>?_) (fun id h1 h2=>?_) hargs).mono ?_
 have:=hH (π id) (b.ren π) (by rw[zt5 hπ,hπ,hb];rfl)
 simp only[zpg,this,Option.map_some,ztx hπ]
 obtain⟨k1,k2⟩:=hnw id h1 h2
 exact hn (π id) k1 k2
 rintro e w' ⟨v,g1,rfl,hA⟩
 refine⟨v,ya1j π g1,rfl,?_⟩
 have hpe:zpg π (effH (zpg π hp) eff)=effH hp (renE π eff):=by
  funext i
  unfold effH
  rw[zxl hπ]
  simp only[zpg]
  cases hg:getL eff (π i) with
  |none=>
   simp only[Option.map_none,hπ,Option.map_map]
   cases hp i with
   |none=>rfl
   |some b=>simp only[Option.map_some,Function.comp,ztx hπ]
  |some ob=>rfl
 refine⟨hA.gz,fun id hid=>?_,?_,?_,?_,?_⟩
 have:=hA.gs (π id) (by show nu (π (π id))=false;rw[hπ];exact hid)
 show g1.σ (π id)=g.σ id
 rw[this]
 show g.σ (π (π id))=_
 rw[hπ]
 refine hA.keep.mono ?_
 rintro b _ ⟨id,o,h1,h2,h3⟩
 refine⟨π id,o,?_,zpf.1 h2,h3⟩
 show getL (mvH π H) (π id)≠none
 rw[zt5 hπ,hπ]
 simpa using h1
 have:=hA.mem.ren hπ (nu':=effN nu nw') fun id hid=>by
  simp only[effN,za0,Bool.not_eq_true',Bool.and_eq_false_iff,decide_eq_false_iff_not,hπ] at hid ⊢
  refine⟨hid.1,?_⟩
  by_cases h1:nw.1<=π id
  by_cases h2:π id<nw.2
  obtain⟨k1,k2⟩:=hnw (π id) h1 h2
  rw[hπ] at k1 k2
  rcases hid.2 with h|h<;>omega
  exact .inr h2
  exact .inl h1
 rwa [hpe] at this
 intro b hb
 rw[<-hpe] at hb
 rcases hA.own b ((zpi hπ).1 hb) with h|h
 exact .inl h
 exact .inr ((zpi hπ).1 h)
 have:=zrb (ya3o hπ w' g1 (effH (zpg π hp) eff)) r v (fun _ _=>trivial) hA.res
 rwa [hpe] at this
end
def bsw(a b m i:Nat):Nat:=bif Nat.ble a i&&Nat.blt i (a+m) then b+(i-a) else bif Nat.ble b i&&Nat.blt i (b+m) then a+(i-b) else i
theorem zzi{a b m:Nat}(h:a+m<=b)(i:Nat):bsw a b m (bsw a b m i)=i:=by
 have c1:∀x y:Nat,(Nat.ble x y=true↔x<=y):=fun x y=>⟨lb,zap⟩
 have c2:∀x y:Nat,(Nat.blt x y=true↔x<y):=fun x y=>⟨fun h=>lb h,fun h=>zap h⟩
 unfold bsw
 cases h1:(Nat.ble a i&&Nat.blt i (a+m))
 cases h2:(Nat.ble b i&&Nat.blt i (b+m))
 simp only[cond_false,h1,h2]
 simp only[za0,c1,c2] at h2
 have e1:(Nat.ble a (a+(i-b))&&Nat.blt (a+(i-b)) (a+m))=true:=by simp only[za0,c1,c2];omega
 simp only[cond_false,cond_true,e1]
 omega
 simp only[za0,c1,c2] at h1
 have e1:(Nat.ble a (b+(i-a))&&Nat.blt (b+(i-a)) (a+m))=false:=by
  rw[<-Bool.not_eq_true];simp only[za0,c1,c2];omega
 have e2:(Nat.ble b (b+(i-a))&&Nat.blt (b+(i-a)) (b+m))=true:=by simp only[za0,c1,c2];omega
 simp only[cond_false,cond_true,e1,e2]
 omega
def sw(a b i:Nat):Nat:=bif Nat.beq i a then b else bif Nat.beq i b then a else i
theorem yaal(a b i:Nat):sw a b (sw a b i)=i:=by
 unfold sw
 by_cases h1:i=a
 subst h1
 by_cases h2:i=b
 subst h2;simp
 simp[zbq (Ne.symm h2)]
 by_cases h2:i=b
 subst h2;simp[zbq h1]
 simp[zbq h1,zbq h2]
mutual
def frz(hp:Nat->Option Blk):D->D×Bool
 |.ref id s off len _=>match hp id with
  |some (.arr _ s' p items)=>(.imm s (unfL ((items.drop off).take len)) 13,Nat.beq s s'&&Nat.ble (off+len) items.length&&p&&okML new1 ((items.drop off).take len)&&(D.idsL ((items.drop off).take len)).isEmpty)
  | _=>(.undef,false)
 |.imm s l c=>(.imm s l c,new1 (c/8)||l.isEmpty)
 |.agg l=>(.agg (frzs hp l).1,(frzs hp l).2)
 |.tuple l=>(.tuple (frzs hp l).1,(frzs hp l).2)
 |.iface t d=>(.iface t (frz hp d).1,(frz hp d).2)
 |.bool b=>(.bool b,true)
 |.int k n=>(.int k n,true)
 |.str l=>(.str l,true)
 |.nilptr=>(.nilptr,true)
 |.nilfn=>(.nilfn,true)
 |.nilIface=>(.nilIface,true)
 |.nilmap=>(.nilmap,true)
 | _=>(.undef,false)
def frzs(hp:Nat->Option Blk):List D->List D×Bool
 |[]=>([],true)
 |d::ds=>((frz hp d).1::(frzs hp ds).1,(frz hp d).2&&(frzs hp ds).2)
end
theorem zxn{fr:Nat}{w:World}{g:Gh}{hp:Nat->Option Blk}:((cx w g hp).at fun b=>fr<=b).Le ((cx0 w fr).at fun b=>fr<=b):=
 Cx.Le.inner (C:=cx w g hp) (C':=cx0 w fr) (fun _ _=>rfl) fun _ _ h2 _=>⟨fun h=>h,h2,rfl⟩
mutual
theorem ya49{fr:Nat}{w:World}{g:Gh}{hp:Nat->Option Blk}(hd:∀id blk,hp id=some blk->holds (cx w g hp) id blk)(hz:g.zn 1=some fun b=>fr<=b)(ho:∀b,ownB g hp b->fr<=b):∀(d:D) (v:Value),rep (cx w g hp) d v->(frz hp d).2=true->rep (cx0 w fr) (frz hp d).1 v
 |.ref id s off len oc,v,h,hp'=>by
  simp only[frz] at hp' ⊢
  split at hp'
  rename_i e s' p items hb
  simp only[za0,List.isEmpty_iff] at hp' ⊢
  obtain⟨⟨⟨⟨h1,hl⟩,rfl⟩,hk⟩,hi⟩:=hp'
  obtain rfl:=nb h1
  have hl:=lb hl
  simp only[rep] at h
  obtain⟨_,ad,cap,rfl,h1,h2,h3,_,h4⟩:=h
  have hlen:(unfL ((items.drop off).take len)).length=len:=by rw[zm5];simp;omega
  simp only[rep]
  refine⟨ad,cap,by rw[hlen],by omega,h2,by simp,by simp,by simp,h3,fun _=>rfl,?_⟩
  by_cases hz0:len=0
  left;subst hz0;simp[unfL]
  right
  rcases h4 with h4|⟨b,T,nn,hσ,rfl,hsh,hn⟩
  omega
  rcases hd id _ hb with⟨rfl,_⟩|⟨b',cs,hσ',hblk,hsz,hel⟩
  simp at hl;omega
  have e:=hσ'.symm.trans hσ
  simp only[za5,zaa] at e
  obtain⟨rfl,_⟩:=e
  intro Z' hZ'
  have hZ':(fun b=>fr<=b)=Z':=by simpa[Cx.zone,cx0] using hZ'
  subst hZ'
  refine⟨_,rfl,rfl,fun h=>h,ho _ ⟨id,0,by rw[hb];simp,hσ⟩,⟨(Array.getElem?_eq_some_iff.1 hblk).1,fun _=>⟨cs,_,hblk⟩⟩,?_⟩
  have he:=zhl _ len _ _ _ (zjc _ off _ _ _ hel)
  have he2:=zqq (C:={cx w g hp with rf:=!true}) (q:=new1) (Zt:=fun b=>fr<=b) (fun m hm=>⟨fun b=>fr<=b,by
   obtain rfl:m=1:=nb hm
   simpa[Cx.zone,cx] using hz,fun b _ hb _=>hb⟩) _ _ _ _ hk hi he
  rw[Nat.zero_add] at he2
  exact zh2 (C:=(cx w g hp).at fun b=>fr<=b) zxn _ _ _ _ rfl he2
  cases hp'
 |.imm s l c,v,h,hp'=>by
  simp only[frz,zau,List.isEmpty_iff] at hp' ⊢
  simp only[rep] at h ⊢
  obtain⟨a,cap,rfl,h1,h2,h3,h4,h5,h6,hfl,h7⟩:=h
  refine⟨a,cap,rfl,h1,h2,h3,h4,h5,h6,fun _=>rfl,?_⟩
  rcases h7 with h7|h7
  exact .inl h7
  rcases hp' with hk|hk
  right
  intro Z' hZ'
  have hc:c/8=1:=nb hk
  rw[hc] at hZ'
  have hZ':(fun b=>fr<=b)=Z':=by simpa[Cx.zone,cx0] using hZ'
  subst hZ'
  obtain⟨a0,ha,hs,hM,hlo,hb,he⟩:=h7 (fun b=>fr<=b) (by rw[hc];simpa[Cx.zone,cx] using hz)
  exact⟨a0,ha,hs,fun h=>h,hlo,hb,zh2 (C:=(cx w g hp).at fun b=>fr<=b) zxn _ _ _ _ rfl he⟩
  exact .inl hk
 |.agg l,v,h,hp'=>by
  simp only[frz] at hp' ⊢
  simp only[rep] at h ⊢
  obtain⟨cs,rfl,h⟩:=h
  exact⟨cs,rfl,zz6 hd hz ho l cs h hp'⟩
 |.tuple l,v,h,hp'=>by
  simp only[frz] at hp' ⊢
  simp only[rep] at h ⊢
  obtain⟨cs,rfl,h⟩:=h
  exact⟨cs,rfl,zz6 hd hz ho l cs h hp'⟩
 |.iface t d,v,h,hp'=>by
  simp only[frz] at hp' ⊢
  simp only[rep] at h ⊢
  obtain⟨x,rfl,h⟩:=h
  exact⟨x,rfl,ya49 hd hz ho d x h hp'⟩
 |.bool b,v,h,_=>by simpa only[frz,rep] using h
 |.int k n,v,h,_=>by simpa only[frz,rep] using h
 |.str l,v,h,_=>by simpa only[frz,rep] using h
 |.nilptr,v,h,_=>by simpa only[frz,rep] using h
 |.nilfn,v,h,_=>by simpa only[frz,rep] using h
 |.nilIface,v,h,_=>by simpa only[frz,rep] using h
 |.nilmap,v,h,_=>by simpa only[frz,rep] using h
 |.ptr _ _,_,_,hp'|.eptr _ _ _ _,_,_,hp'|.iptr _ _,_,_,hp'|.fn _ _,_,_,hp'|.mref _,_,_,hp'|.when _ _,_,_,hp'|.sc,_,_,hp'|.undef,_,_,hp'=>by simp[frz] at hp'
theorem zz6{fr:Nat}{w:World}{g:Gh}{hp:Nat->Option Blk}(hd:∀id blk,hp id=some blk->holds (cx w g hp) id blk)(hz:g.zn 1=some fun b=>fr<=b)(ho:∀b,ownB g hp b->fr<=b):∀(l:List D) (vs:List Value),reps (cx w g hp) l vs->(frzs hp l).2=true->reps (cx0 w fr) (frzs hp l).1 vs
 |[],vs,h,_=>by simp only[reps,frzs] at h ⊢;exact h
 |d::ds,vs,h,hp'=>by
  simp only[frzs,za0] at hp' ⊢
  simp only[reps] at h ⊢
  obtain⟨v,vs',rfl,h1,h2⟩:=h
  exact⟨v,vs',rfl,ya49 hd hz ho d v h1 hp'.1,zz6 hd hz ho ds vs' h2 hp'.2⟩
end
mutual
theorem zys{hp:Nat->Option Blk}:∀d:D,(frz hp d).2=true->okM new1 (frz hp d).1=true
 |.ref id s off len oc,h=>by
  simp only[frz] at h ⊢
  split at h
  simp[okM,new1]
  cases h
 |.imm s l c,h=>by simpa only[frz,okM] using h
 |.agg l,h=>by
  simp only[frz] at h ⊢
  simp only[okM];exact zvt l h
 |.tuple l,h=>by
  simp only[frz] at h ⊢
  simp only[okM];exact zvt l h
 |.iface t d,h=>by
  simp only[frz] at h ⊢
  simp only[okM];exact zys d h
 |.bool _,_|.int _ _,_|.str _,_|.nilptr,_|.nilfn,_|.nilIface,_|.nilmap,_=>by simp only[frz,okM]
 |.ptr _ _,h|.eptr _ _ _ _,h|.iptr _ _,h|.fn _ _,h|.mref _,h|.when _ _,h|.sc,h|.undef,h=>by simp[frz] at h
theorem zvt{hp:Nat->Option Blk}:∀l:List D,(frzs hp l).2=true->okML new1 (frzs hp l).1=true
 |[],_=>by simp only[frzs,okML]
 |d::ds,h=>by
  simp only[frzs,za0] at h
  simp only[frzs,okML,zys d h.1,zvt ds h.2,Bool.and_self]
end
theorem zgb{P:Program}{K:FuncId}{args:List D}{r r':D}{eff:List (Nat×Option Blk)}{nw:Nat×Nat}(hr:frz (effH (fun _=>none) eff) r=(r',true))(h:zbv P K args [] r eff nw):zbi P K args r':=by
 refine⟨h.1,fun w vs hG hvs=>?_⟩
 let g:Gh:=⟨fun _=>none,fun _=>True,fun m=>if m=1 then some (fun x=>w.heap.size<=x) else if m=2 then some (fun x=>x<w.heap.size) else none⟩
 have hM:Mem w.heap.size w g (fun _=>none) (fun _=>true):=by
  refine⟨(fun id blk h=>by cases h),fun id id' b o o' h=>absurd rfl h,fun id _=>⟨rfl,rfl⟩,⟨fun _ _=>trivial,⟨_,rfl,fun x hx=>⟨hx,trivial⟩,fun x hx=>hx⟩,⟨_,rfl,fun x hx=>⟨hx,trivial⟩⟩,?_,fun b hb=>by obtain⟨id,o,h1,_⟩:=hb;exact absurd rfl h1⟩,⟨za4 _,hG⟩⟩
  intro m Zm hm hz
  have:g.zn m=none:=by
   simp only[g]
   rw[if_neg (by omega),if_neg (by omega)]
  rw[this] at hz;cases hz
 have hle:Cx.Le (cx0 w w.heap.size) (cx w g fun _=>none):=by
  refine⟨fun m _ Z' hZ'=>⟨Z',hZ',fun b _ k2 k3=>⟨?_,k2,.refl k3⟩⟩,fun _ _=>rfl,fun _=>rfl,(fun x=>by cases x),(fun x=>by cases x)⟩
  rintro⟨id,o,h1,_⟩
  exact h1 rfl
 refine(h.2 w.heap.size w g (fun _=>none) (fun _=>true) vs hM (fun id b h=>by cases h) (fun _ _ _=>rfl) (zhr hle _ _ hvs)).mono ?_
 rintro ee w' ⟨v,g',he,ha⟩
 have h1:r'=(frz (effH (fun _=>none) eff) r).1:=by rw[hr]
 have h2:(frz (effH (fun _=>none) eff) r).2=true:=by rw[hr]
 refine⟨v,he,ha.keep.mono ?_,by rw[h1];exact zys _ h2,?_⟩
 rintro i _ ⟨id,o,h1,_⟩
 exact h1 rfl
 rw[h1]
 refine ya49 ha.mem.hd ?_ (fun b hb=>?_) r v ha.res h2
 rw[ha.gz.2];rfl
 rcases ha.own b hb with h|⟨id,o,h,_⟩
 exact h
 exact absurd rfl h
end Go.Tm
