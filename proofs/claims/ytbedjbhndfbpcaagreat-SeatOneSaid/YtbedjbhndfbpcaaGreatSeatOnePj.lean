/- Texts of the proof. -/
import Derived.Test.YtbedjbhndfbpcaaGreatSeatOnePi
set_option linter.unusedVariables false
set_option linter.unusedSimpArgs false
namespace Go.Tm
open Go.RowKit Go.WideShapes
structure FP where
 w:List Nat
 m:List Nat
 nl:Nat
 nh:Nat
def zo6(rd:Nat->D)(l:List Operand):List Nat:=(l.map fun x=>(ev rd x).ids).flatten
def zmr(rd:Nat->D)(o:Op):List Nat:=match o with
 |.move _=>[]
 |.assign _=>[]
 |.nilCheck _=>[]
 |o=>zo6 rd o.operands.toList
def fpOf(o:Oper)(F:FrS)(out:Out):FP:=
 {w:=out.eff.map (·.1),m:=zmr F.rd o.op++out.met,nl:=out.nw.1,nh:=out.nw.2}
def disj(a b:List Nat):Bool:=a.all fun x=>b.all fun y=>!Nat.beq x y
def okFP(x y:FP):Bool:=disj x.w (y.w++y.m)&&disj y.w (x.w++x.m)&&(Nat.ble x.nh y.nl||Nat.ble y.nh x.nl)
def anc(ops:Array Oper):Nat->Nat->Nat->Bool
 |0,_,_=>false
 |f+1,i,j=>match ops[i]? with
  |some o=>o.after.toList.any fun e=>Region.binds .any e&&(Nat.beq e.on j||anc ops f e.on j)
  |none=>false
def ya1q(ops:Array Oper)(o:Oper):List Nat:=o.looksAt ops
def zvd(ops:Array Oper):Bool:=
 (List.range ops.size).all fun i=>match ops[i]? with
  |some oi=>(oi.after.toList.all fun e=>!Region.binds .any e||Nat.blt e.on i)&&
   (List.range i).all fun j=>anc ops ops.size i j||(match ops[j]? with|some oj=>oj.apart ops oi|none=>true)
  |none=>true
def zl5(ops:Array Oper)(fps:Nat->FP):Bool:=
 (List.range ops.size).all fun i=>(List.range i).all fun j=>okFP (fps j) (fps i)||anc ops ops.size i j
theorem ztj{a b:List Nat}(h:disj a b=true):∀x∈a,x∉b:=by
 intro x hx hb
 have:=List.all_eq_true.1 (List.all_eq_true.1 h x hx) x hb
 simp at this
theorem ztk{a b c:List Nat}(h:disj a (b++c)=true):disj a b=true/\disj a c=true:=by
 simp only[disj,List.all_append,List.all_eq_true,za0] at h ⊢
 exact⟨fun x hx=>(h x hx).1,fun x hx=>(h x hx).2⟩
theorem zav{g:Bool}{rd rd':Nat->D}{x:Operand}(h:ev rd' x=ev rd x):opd g rd' x=opd g rd x:=by
 unfold opd;rw[h]
theorem zls{g:Bool}{rd rd':Nat->D}:∀(l:List Operand),(∀x∈l,ev rd' x=ev rd x)->opds g rd' l=opds g rd l
 |[],_=>rfl
 |x::r,h=>by simp only[opds,zav (h x (by simp)),zls r fun y hy=>h y (by simp[hy])]
theorem zsr{g:Bool}{rd rd':Nat->D}:∀(l:List (Nat×Operand)),(∀x∈l,ev rd' x.2=ev rd x.2)->zo5 g rd' l=zo5 g rd l
 |[],_=>rfl
 |(i,x)::r,h=>by simp only[zo5,zav (h (i,x) (by simp)),zsr r fun y hy=>h y (by simp[hy])]
theorem zqg{g:Bool}{rd rd':Nat->D}{x:Option Operand}(h:∀y∈x.toList,ev rd' y=ev rd y):opdO g rd' x=opdO g rd x:=by
 cases x with
 |none=>rfl
 |some y=>simp only[opdO,zav (h y (by simp))]
theorem zyr{g:Bool}{rd:Nat->D}{x:Operand}{d:D}{p:Bool}(h:opd g rd x=(d,p)):∀i∈d.ids,i∈(ev rd x).ids:=by
 unfold opd at h
 split at h
 rename_i c d' he
 cases h
 rw[he];simp only[D.ids];exact fun i hi=>hi
 cases h;exact fun i hi=>hi
theorem zsu{rd:Nat->D}{l:List Operand}{x:Operand}(hx:x∈l){i:Nat}(hi:i∈(ev rd x).ids):i∈zo6 rd l:=by
 simp only[zo6,List.mem_flatten,List.mem_map]
 exact⟨_,⟨x,hx,rfl⟩,hi⟩
theorem zyw{hp hp':Nat->Option Blk}{ag:Bool}{n:Nat}{d:D}(h:∀i∈d.ids,hp' i=hp i):zql hp' ag n d=zql hp ag n d:=by
 cases d<;>simp only[zql,D.ids] at h ⊢
 rw[h _ (by simp)]
 rw[h _ (by simp)]
theorem zwr{hp hp':Nat->Option Blk}{n:Nat}{d d':D}(h:∀i∈d'.ids,hp' i=hp i):zn4 hp' n d d'=zn4 hp n d d':=by
 cases d'<;>simp only[zn4,D.ids] at h ⊢
 rw[h _ (by simp)]
 rw[h _ (by simp)]
theorem zq8{hp hp':Nat->Option Blk}{n:Nat}{d:D}(h:∀i∈d.ids,hp' i=hp i):srcD hp' n d=srcD hp n d:=by
 cases d<;>simp only[srcD,D.ids] at h ⊢
 rw[h _ (by simp)]
theorem zwe{hp hp':Nat->Option Blk}{dst el esz eby:Nat}{s:D}{xs:List D}{px vx:Bool}(hs:∀i∈s.ids,hp' i=hp i):zat hp' dst el esz eby s xs px vx=zat hp dst el esz eby s xs px vx:=by
 cases s with
 |imm s l c=>cases l<;>rfl
 |ref id s' off len oc=>simp only[zat];rw[hs id (by simp[D.ids])]
 | _=>rfl
mutual
theorem zjb{hp hp':Nat->Option Blk}:∀(d:D),(∀i∈d.ids,hp' i=hp i)->lend hp' d=lend hp d
 |.ref id s off len oc,h=>by simp only[lend];rw[h id (by simp[D.ids])]
 |.agg l,h=>by simp only[lend,zja l (by simpa only[D.ids] using h)]
 |.tuple l,h=>by simp only[lend,zja l (by simpa only[D.ids] using h)]
 |.fn f l,h=>by simp only[lend,zja l (by simpa only[D.ids] using h)]
 |.iface t d,h=>by simp only[lend,zjb d (by simpa only[D.ids] using h)]
 |.ptr id off,h=>by simp only[lend];rw[h id (by simp[D.ids])]
 |.eptr _ _ _ _,_|.when _ _,_|.bool _,_|.int _ _,_|.str _,_|.imm _ _ _,_|.iptr _ _,_|.nilptr,_|.nilfn,_|.nilIface,_|.sc,_|.undef,_|.mref _,_|.nilmap,_=>by simp only[lend]
theorem zja{hp hp':Nat->Option Blk}:∀(l:List D),(∀i∈D.idsL l,hp' i=hp i)->zei hp' l=zei hp l
 |[],_=>by simp only[zei]
 |d::ds,h=>by
  simp only[D.idsL,List.mem_append] at h
  simp only[zei,zjb d fun i hi=>h i (.inl hi),zja ds fun i hi=>h i (.inr hi)]
end
theorem zyf{hp hp':Nat->Option Blk}{id s off:Nat}{oc:Option Nat}{lo hi:Option D}(h:hp' id=hp id):zu8 hp' id s off oc lo hi=zu8 hp id s off oc lo hi:=by
 unfold zu8
 rw[h]
theorem zr9{hp hp':Nat->Option Blk}{d:D}(h:∀i∈d.ids,hp' i=hp i):zjr hp' d=zjr hp d:=by
 cases d
 case ref id s off len oc=>
  cases oc
  simp only[zjr];rw[h id (by simp[D.ids])]
  rfl
 all_goals rfl
theorem zue{hp hp':Nat->Option Blk}{esz:Nat}{d:D}{xs:List D}{px vx:Bool}(h:∀i∈d.ids,hp' i=hp i):zho hp' esz d xs px vx=zho hp esz d xs px vx:=by
 cases d
 case ref id s off len oc=>
  cases oc
  simp only[zho];rw[h id (by simp[D.ids])]
  simp only[zho];rw[h id (by simp[D.ids])]
 all_goals rfl
theorem zwd{hp hp':Nat->Option Blk}{nid:Nat}{ti:TI}{d x:D}(h:∀i∈d.ids,hp' i=hp i):zia hp' nid ti d x=zia hp nid ti d x:=by
 cases d
 case ref id s' off len oc=>
  cases oc
  rfl
  cases x<;>simp only[zia]
  rw[h id (by simp[D.ids])]
 case imm s l c=>cases l<;>cases x<;>rfl
 all_goals rfl
theorem ya4v{tab:Nat->TI}{own:Bool}{o:Op}{dst:Nat}{g:Bool}{rd rd':Nat->D}{hp hp':Nat->Option Blk}(he:∀x∈o.operands.toList,ev rd' x=ev rd x)
  (hh:∀i∈zo6 rd o.operands.toList,hp' i=hp i):aop tab own o dst g rd' hp'=aop tab own o dst g rd hp:=by
 have hid:∀{g:Bool} {x:Operand} {d:D} {p:Bool},x∈o.operands.toList->opd g rd x=(d,p)->∀i∈d.ids,hp' i=hp i:=
  fun hx hd i hi=>hh i (zsu hx (zyr hd i hi))
 cases o with
 |move x=>simp only[aop,zav (he x (by simp[Op.operands]))]
 |assign x=>simp only[aop,zav (he x (by simp[Op.operands]))]
 |pick c a b=>simp only[aop,zav (he c (by simp[Op.operands])),zav (he a (by simp[Op.operands])),zav (he b (by simp[Op.operands]))]
 |binOp op t x y ty=>
  simp only[aop,zav (he x (by simp[Op.operands])),zav (he y (by simp[Op.operands]))]
  cases h:opd g rd x with
  |mk d p=>
   have e:=zr9 (d:=d) (hid (by simp[Op.operands]) h)
   cases h2:opd g rd y with
   |mk d2 q=>
    cases d
    case ref=>simp only[e]
    all_goals (cases d2<;>rfl)
 |unOp op t x=>simp only[aop,zav (he x (by simp[Op.operands]))]
 |convert t t' x=>
  simp only[aop,zav (he x (by simp[Op.operands]))]
  cases h:opd g rd x with
  |mk d p=>cases d<;>simp only<;>rw[zq8 (hid (by simp[Op.operands]) h)]
 |alloc t=>rfl
 |box t x=>simp only[aop,zav (he x (by simp[Op.operands]))]
 |build t ps=>simp only[aop];rw[zsr ps.toList fun x hx=>he x.2 (by simp only[Op.operands];exact List.mem_map.2 ⟨x,hx,rfl⟩)]
 |buildSlice t n ps=>simp only[aop];rw[zls (ps.toList.map (·.2)) fun x hx=>he x (by simpa only[Op.operands] using hx)]
 |load t x=>
  simp only[aop,zav (he x (by simp[Op.operands]))]
  cases h:opd g rd x with
  |mk d p=>simp only;rw[zyw (hid (by simp[Op.operands]) h)]
 |store t x y=>
  simp only[aop,zav (he x (by simp[Op.operands])),zav (he y (by simp[Op.operands]))]
  cases h:opd g rd x with
  |mk d p=>
   cases h':opd g rd y with
   |mk d' p'=>simp only;rw[zwr (hid (by simp[Op.operands]) h)]
 |nilCheck x=>simp only[aop,zav (he x (by simp[Op.operands]))]
 |fieldAddr t x f=>simp only[aop,zav (he x (by simp[Op.operands]))]
 |field t x f=>simp only[aop,zav (he x (by simp[Op.operands]))]
 |indexAddr t x y=>simp only[aop,zav (he x (by simp[Op.operands])),zav (he y (by simp[Op.operands]))]
 |index t x y=>simp only[aop,zav (he x (by simp[Op.operands])),zav (he y (by simp[Op.operands]))]
 |slice t x lo hi mx=>
  have h1:=zav (g:=g) (he x (by simp[Op.operands]))
  have h2:opdO g rd' lo=opdO g rd lo:=zqg fun y hy=>he y (by simp[Op.operands] at hy ⊢;simp[hy])
  have h3:opdO g rd' hi=opdO g rd hi:=zqg fun y hy=>he y (by simp[Op.operands] at hy ⊢;simp[hy])
  cases mx with
  |some m=>
   have h4:=zav (g:=g) (he m (by simp[Op.operands]))
   simp only[aop,h1,h2,h3,h4]
   cases h:opd g rd x with
   |mk d p=>
    have e:=zr9 (d:=d) (hid (by simp[Op.operands]) h)
    cases opdO g rd lo
    cases opdO g rd hi
    cases opd g rd m
    cases d
    case ref=>simp only[e]
    all_goals rfl
  |none=>
   simp only[aop,h1,h2,h3]
   cases h:opd g rd x with
   |mk d p=>
    cases d
    case ref id s off len oc=>simp only;rw[zyf (hid (by simp[Op.operands]) h _ (by simp only[D.ids];exact List.mem_singleton.2 rfl))]
    all_goals rfl
 |extract x i=>simp only[aop,zav (he x (by simp[Op.operands]))]
 |makeFunc f first caps=>
  simp only[aop]
  rw[zls caps.toList fun x hx=>he x (by simp only[Op.operands,Array.toList_append,List.mem_append];exact .inr hx)]
  have hx:∀x,first.toList=[x]->opd g rd' x=opd g rd x:=fun x hx=>zav (he x (by simp only[Op.operands,Array.toList_append,List.mem_append];left;rw[hx];simp))
  split
  rfl
  rename_i hf _;rw[hx _ hf]
  rfl
 |makeInterface t x=>simp only[aop,zav (he x (by simp[Op.operands]))]
 |makeSlice t x y=>simp only[aop,zav (he x (by simp[Op.operands])),zav (he y (by simp[Op.operands]))]
 |makeMap t r=>
  have h2:opdO g rd' r=opdO g rd r:=zqg fun y hy=>he y (by simp[Op.operands] at hy ⊢;simp[hy])
  simp only[aop,h2]
 |lookup t x y ok=>
  simp only[aop,zav (he x (by simp[Op.operands])),zav (he y (by simp[Op.operands]))]
  cases h:opd g rd x with
  |mk d p=>
   cases d<;>simp only
   rw[hid (by simp[Op.operands]) h _ (by simp only[D.ids];exact List.mem_singleton.2 rfl)]
 |mapUpdate t x y z=>
  simp only[aop,zav (he x (by simp[Op.operands])),zav (he y (by simp[Op.operands])),zav (he z (by simp[Op.operands]))]
  cases h:opd g rd x with
  |mk d p=>
   cases d<;>simp only
   rw[hid (by simp[Op.operands]) h _ (by simp only[D.ids];exact List.mem_singleton.2 rfl)]
 |insert t x y z=>
  simp only[aop,zav (he x (by simp[Op.operands])),zav (he y (by simp[Op.operands])),zav (he z (by simp[Op.operands]))]
  cases h:opd g rd x with
  |mk d p=>
   cases d<;>simp only
   rw[hid (by simp[Op.operands]) h _ (by simp only[D.ids];exact List.mem_singleton.2 rfl)]
 |call c=>
  have hm:∀x∈c.args.toList,x∈(Op.call c).operands.toList:=by
   intro x hx
   simp only[Op.operands,Call.operands,Array.toList_append,List.mem_append]
   exact .inr hx
  simp only[aop]
  split
  rename_i x t hc hca hct
  rw[zav (he x (hm x (by rw[hca];simp)))]
  rename_i x t hc hca hct
  rw[zav (he x (hm x (by rw[hca];simp)))]
  rename_i s x t t' hc hca hct
  rw[zav (he s (hm s (by rw[hca];simp))),zav (he x (hm x (by rw[hca];simp)))]
  cases h:opd g rd s with
  |mk d p=>
   cases h':opd g rd x with
   |mk d' p'=>
    simp only
    rw[zq8 (hid (hm x (by rw[hca];simp)) h')]
    cases srcD hp (tab t).esz d' with
    |none=>rw[zwd (hid (hm s (by rw[hca];simp)) h)]
    |some z=>simp only;rw[zue (hid (hm s (by rw[hca];simp)) h),zwe (hid (hm s (by rw[hca];simp)) h)]
  ·rename_i s x t t' hc hca hct
   rw[zav (he s (hm s (by rw[hca];simp))),zav (he x (hm x (by rw[hca];simp)))]
   cases h:opd g rd s with
   |mk d p=>
    cases h':opd g rd x with
    |mk d' p'=>
     cases d<;>try simp only
     cases d'<;>try simp only
     case ref.ref=>rw[hid (hm s (by rw[hca];simp)) h _ (by simp only[D.ids];exact List.mem_singleton.2 rfl),hid (hm x (by rw[hca];simp)) h' _ (by simp only[D.ids];exact List.mem_singleton.2 rfl)]
     all_goals rw[zq8 (hid (hm x (by rw[hca];simp)) h'),hid (hm s (by rw[hca];simp)) h _ (by simp only[D.ids];exact List.mem_singleton.2 rfl)]
  ·rename_i x t hc hca hct
   rw[zav (he x (hm x (by rw[hca];simp)))]
   cases h:opd g rd x with
   |mk d p=>
    cases d
    case ref id s off len oc=>simp only;rw[hid (hm x (by rw[hca];simp)) h _ (by simp only[D.ids];exact List.mem_singleton.2 rfl)]
    case imm s l k=>cases l<;>rfl
    all_goals rfl
  rename_i x y hc hca
  rw[zav (he x (hm x (by rw[hca];simp))),zav (he y (hm y (by rw[hca];simp)))]
  rename_i x y hc hca
  rw[zav (he x (hm x (by rw[hca];simp))),zav (he y (hm y (by rw[hca];simp)))]
  rename_i x y t t' hc hca hct
  rw[zav (he x (hm x (by rw[hca];simp))),zav (he y (hm y (by rw[hca];simp)))]
  cases h:opd g rd x with
  |mk d p=>
   cases d<;>simp only
   rw[hid (hm x (by rw[hca];simp)) h _ (by simp only[D.ids];exact List.mem_singleton.2 rfl)]
  rfl
 | _=>rfl
theorem ya08{g:Bool}{rd:Nat->D}:∀(l:List Operand) {ds:List D} {p:Bool},opds g rd l=(ds,p)->∀i∈D.idsL ds,i∈zo6 rd l
 |[],ds,p,h=>by simp only[opds] at h;cases h;simp[D.idsL]
 |x::r,ds,p,h=>by
  simp only[opds] at h
  cases h1:opd g rd x with
  |mk d p1=>
   cases h2:opds g rd r with
   |mk ds' p2=>
    rw[h1,h2] at h
    cases h
    intro i hi
    simp only[D.idsL,List.mem_append] at hi
    rcases hi with hi|hi
    exact zsu (by simp) (zyr h1 i hi)
    have:=ya08 r h2 i hi
    simp only[zo6,zai,List.flatten_cons,List.mem_append] at this ⊢
    exact .inr this
theorem zz2(l l':List D):D.idsL (l++l')=D.idsL l++D.idsL l':=by
 induction l with
 |nil=>rfl
 |cons d l ih=>simp only[zb2,D.idsL,ih,List.append_assoc]
theorem zrv{α:Type}{l:List (Nat×α)}{i:Nat}{x:α}(h:getL l i=some x):i∈l.map (·.1):=by
 induction l with
 |nil=>cases h
 |cons y l ih=>
  obtain⟨a,z⟩:=y
  simp only[getL] at h
  cases hb:Nat.beq a i
  rw[hb] at h;exact zaw _ (ih h)
  rw[nb hb];simp
theorem zxm{α:Type}{l:List (Nat×α)}{i:Nat}(h:i∉l.map (·.1)):getL l i=none:=by
 cases hg:getL l i with
 |none=>rfl
 |some x=>exact absurd (zrv hg) h
mutual
theorem zyx{hp hp':Nat->Option Blk}:∀(d:D),(∀i∈d.ids,hp' i=hp i)->(∀i∈ids2 hp d,hp' i=hp i)->zft hp' d=zft hp d/\ids2 hp' d=ids2 hp d
 |.ptr id off,h,h2=>by
  have e:=h id (by simp[D.ids])
  simp only[zft,ids2,e] at h2 ⊢
  cases hb:hp id with
  |none=>simp
  |some blk=>
   cases blk with
   |box cells=>
    rw[hb] at h2
    simp only[zja cells (fun i hi=>h2 i hi),and_self]
   |arr _ _ _ _=>simp
   |map _=>simp
 |.fn f l,h,h2=>by
  simp only[zft,ids2] at h2 ⊢
  obtain⟨e1,e2⟩:=zng l (by simpa only[D.ids] using h) h2
  exact⟨by rw[e1],e2⟩
 |.agg l,h,_=>by simp only[zft,ids2,zjb _ h,and_self]
 |.tuple l,h,_=>by simp only[zft,ids2,zjb _ h,and_self]
 |.iface t d,h,_=>by simp only[zft,ids2,zjb _ h,and_self]
 |.ref id s off len oc,h,_=>by simp only[zft,ids2,zjb _ h,and_self]
 |.eptr _ _ _ _,h,_|.when _ _,h,_|.bool _,h,_|.int _ _,h,_|.str _,h,_|.imm _ _ _,h,_|.iptr _ _,h,_|.nilptr,h,_|.nilfn,h,_|.nilIface,h,_|.sc,h,_|.undef,h,_|.mref _,h,_|.nilmap,h,_=>by simp only[zft,ids2,zjb _ h,and_self]
theorem zng{hp hp':Nat->Option Blk}:∀(l:List D),(∀i∈D.idsL l,hp' i=hp i)->(∀i∈zjf hp l,hp' i=hp i)->zex hp' l=zex hp l/\zjf hp' l=zjf hp l
 |[],_,_=>by simp only[zex,zjf,and_self]
 |d::ds,h,h2=>by
  simp only[D.idsL,List.mem_append,zjf] at h h2
  obtain⟨e1,e2⟩:=zyx d (fun i hi=>h i (.inl hi)) (fun i hi=>h2 i (.inl hi))
  obtain⟨e3,e4⟩:=zng ds (fun i hi=>h i (.inr hi)) (fun i hi=>h2 i (.inr hi))
  simp only[zex,zjf,e1,e2,e3,e4,and_self]
end
theorem ya22{tab:Nat->TI}{own:Bool}{o:Op}{dst:Nat}{g:Bool}{rd rd':Nat->D}{hp hp':Nat->Option Blk}(he:∀x∈o.operands.toList,ev rd' x=ev rd x)
  (hh:∀i∈zmr rd o,hp' i=hp i):aop tab own o dst g rd' hp'=aop tab own o dst g rd hp:=by
 cases o with
 |move x=>simp only[aop,zav (he x (by simp[Op.operands]))]
 |assign x=>simp only[aop,zav (he x (by simp[Op.operands]))]
 |nilCheck x=>simp only[aop,zav (he x (by simp[Op.operands]))]
 | _=>exact ya4v he hh
theorem zrd{rd rd':Nat->D}{o:Op}(h:∀x∈o.operands.toList,ev rd' x=ev rd x):zmr rd' o=zmr rd o:=by
 have:zo6 rd' o.operands.toList=zo6 rd o.operands.toList:=by
  unfold zo6
  congr 1
  exact List.map_congr_left fun x hx=>by rw[h x hx]
 cases o<;>first|rfl|exact this
section
variable {P : Program} {tab : Nat -> TI} {own : Bool}
theorem zv1{o:Oper}{F F':FrS}{out:Out}(he:∀x∈o.op.operands.toList,ev F'.rd x=ev F.rd x)(hh:∀i∈zmr F.rd o.op++out.met,F'.hp i=F.hp i)
  (hn:∀i,out.nw.1<=i->i<out.nw.2->F.nu i=true->F'.nu i=true) (h:Core P tab own o F out):Core P tab own o F' out:=by
 have hh0:∀i∈zmr F.rd o.op,F'.hp i=F.hp i:=fun i hi=>hh i (List.mem_append_left _ hi)
 have plain:(∃nid,aop tab own o.op nid true F.rd F.hp=some out/\out.vc=true/\(out.nw=(nid,nid+1)->F.nu nid=true))->∃nid,aop tab own o.op nid true F'.rd F'.hp=some out/\out.vc=true/\(out.nw=(nid,nid+1)->F'.nu nid=true):=by
  rintro⟨nid,h1,h2,h3⟩
  exact⟨nid,(ya22 he hh0).trans h1,h2,fun e=>hn nid (by rw[e];exact za4 _) (by rw[e];exact Nat.lt_succ_self _) (h3 e)⟩
 unfold Core at*
 split at h
 ·rename_i c hop
  split at h
  ·rename_i f hc
   have hh1:∀i∈zo6 F.rd o.op.operands.toList,F'.hp i=F.hp i:=fun i hi=>hh0 i (by rw[hop] at hi ⊢;exact hi)
   rcases h with h|⟨K,pre,ds,r,H,eff,nw,h1,h3,g1,g2,g3,g4,rfl⟩
   case inr=>
    have hmf:f∈o.op.operands.toList:=by rw[hop];simp[Op.operands,Call.operands,hc]
    have hma:∀x∈c.args.toList,x∈o.op.operands.toList:=by
     intro x hx
     rw[hop]
     simp only[Op.operands,Call.operands,hc,Array.toList_append,List.mem_append]
     exact .inr hx
    refine .inr ⟨K,pre,ds,r,H,eff,nw,by rw[zav (he f hmf)];exact h1,by rw[zls _ fun x hx=>he x (hma x hx)];exact h3,g1,fun id b hb=>?_,fun id k1 k2=>hn id k1 k2 (g3 id k1 k2),g4,rfl⟩
    rw[hh id (List.mem_append_right _ (zrv hb))]
    exact g2 id b hb
   refine .inl ?_
   obtain⟨K,caps,p,ds,q,r,h1,h2,h3,h4,h5⟩:=h
   have hmf:f∈o.op.operands.toList:=by rw[hop];simp[Op.operands,Call.operands,hc]
   have hma:∀x∈c.args.toList,x∈o.op.operands.toList:=by
    intro x hx
    rw[hop]
    simp only[Op.operands,Call.operands,hc,Array.toList_append,List.mem_append]
    exact .inr hx
   have hids:∀i∈D.idsL (ds++caps),F'.hp i=F.hp i:=by
    refine fun i hi=>hh1 i ?_
    rw[zz2,List.mem_append] at hi
    rcases hi with hi|hi
    have hx:=ya08 _ h3 i hi
    simp only[zo6,List.mem_flatten,List.mem_map] at hx ⊢
    obtain⟨_,⟨x,hx,rfl⟩,hix⟩:=hx
    exact⟨_,⟨x,hma x hx,rfl⟩,hix⟩
    refine zsu hmf (zyr h1 i ?_)
    simpa only[D.ids] using hi
   have hl:zei F'.hp (ds++caps)=zei F.hp (ds++caps):=zja _ hids
   refine⟨K,caps,p,ds,q,r,by rw[zav (he f hmf)];exact h1,h2,by rw[zls _ fun x hx=>he x (hma x hx)];exact h3,h4,?_⟩
   rcases h5 with⟨g1,g2,g3⟩|⟨H,eff,nw,g1,g2,g3,g4,rfl⟩|⟨i,j,g1,g2,rfl⟩|⟨eff,nw,g1,g2,rfl⟩
   exact .inl ⟨by rw[hl];exact g1,by rw[hl];exact g2,g3⟩
   refine .inr (.inl ⟨H,eff,nw,g1,fun id b hb=>?_,fun id k1 k2=>hn id k1 k2 (g3 id k1 k2),g4,rfl⟩)
   rw[hh id (List.mem_append_right _ (zrv hb))]
   exact g2 id b hb
   obtain⟨s,o',n',c',s',o2,n2,c2,e,z,pp,l,e',z',pp',l',hds,hb1,hb2,hij⟩:=g2
   exact .inr (.inr (.inl ⟨i,j,g1,⟨s,o',n',c',s',o2,n2,c2,e,z,pp,l,e',z',pp',l',hds,(hh i (List.mem_append_right _ (by simp))).trans hb1,(hh j (List.mem_append_right _ (by simp))).trans hb2,hij⟩,rfl⟩))
   obtain⟨e1,e2⟩:=zng (ds++caps) hids (fun i hi=>hh i (List.mem_append_right _ hi))
   refine .inr (.inr (.inr ⟨eff,nw,by rw[e1];exact g1,?_,by rw[e2]⟩))
   rw[e1]
   rcases g2 with g2|⟨k1,k2,k3,k4,k5⟩
   exact .inl g2
   exact .inr ⟨k1,k2,k3,k4,fun id m1 m2=>hn id m1 m2 (k5 id m1 m2)⟩
  exact plain h
 exact plain h
theorem zov{ops:Array Oper}{o:Oper}{F F':FrS}(h:∀t∈ya1q ops o,F'.rd t=F.rd t):∀x∈o.op.operands.toList,ev F'.rd x=ev F.rd x:=by
 intro x hx
 cases x with
 |tmp t=>
  refine h t ?_
  simp only[ya1q,Oper.looksAt,List.mem_append,List.mem_filterMap]
  exact .inl ⟨.tmp t,hx,rfl⟩
 | _=>rfl
theorem zou{ops:Array Oper}{o:Oper}{F F':FrS}{out:Out}(h:∀t∈ya1q ops o,F'.rd t=F.rd t)(hh:∀i∈zmr F.rd o.op++out.met,F'.hp i=F.hp i)
  (hn:∀i,out.nw.1<=i->i<out.nw.2->F.nu i=true->F'.nu i=true) (hf:zm4 P tab own ops o F out):
  zm4 P tab own ops o F' out:=by
 have he:=zov h
 unfold zm4 at*
 split at hf
 exact zv1 he hh hn hf
 rename_i j want hg
 obtain⟨t,g,out0,h1,h2,h3,rfl⟩:=hf
 refine⟨t,g,out0,h1,?_,fun hgt=>zv1 he hh ?_ (h3 hgt),rfl⟩
 rw[h t ?_]
 exact h2
 simp only[ya1q,Oper.looksAt,List.mem_append]
 right
 simp only[hg]
 simp only[zo9] at h1
 rw[h1]
 simp
 subst hgt
 exact hn
def Step(P:Program)(tab:Nat->TI)(own:Bool)(ops:Array Oper)(outs:Nat->Out)(fps:Nat->FP)(i:Nat)(F:FrS):Prop:=∃o,ops[i]?=some o/\zm4 P tab own ops o F (outs i)/\fpOf o F (outs i)=fps i
def FrS.at(ops:Array Oper)(outs:Nat->Out)(i:Nat)(F:FrS):FrS:=match ops[i]? with
 |some o=>F.app o (outs i)
 |none=>F
theorem zjk{F:FrS}{o:Oper}{out:Out}{t:Nat}(h:o.dst≠some t):(F.app o out).rd t=F.rd t:=by
 have:(o.dst==some t)=false:=by simpa using h
 simp[FrS.app,FrS.put,FrS.eff,this]
theorem zq2{F:FrS}{o:Oper}{out:Out}{t:Nat}(h:o.dst=some t):(F.app o out).rd t=out.d:=by
 simp[FrS.app,FrS.put,h]
theorem zu2{F:FrS}{o:Oper}{out:Out}:(F.app o out).hp=effH F.hp out.eff:=rfl
theorem zu1{F:FrS}{o:Oper}{out:Out}:(F.app o out).nu=effN F.nu out.nw:=rfl
theorem ztf{hp:Nat->Option Blk}{eff:List (Nat×Option Blk)}{i:Nat}(h:i∉eff.map (·.1)):effH hp eff i=hp i:=by
 unfold effH;rw[zxm h]
theorem ya2p{ops:Array Oper}{outs:Nat->Out}{fps:Nat->FP}{i j:Nat}{oi oj:Oper}{F:FrS}(hi:ops[i]?=some oi)(hj:ops[j]?=some oj)(hap:oj.apart ops oi=true)(hok:okFP (fps j) (fps i)=true)
  (h1:Step P tab own ops outs fps j F) (h2:Step P tab own ops outs fps i (FrS.at ops outs j F)):
  Step P tab own ops outs fps i F/\Step P tab own ops outs fps j (FrS.at ops outs i F)/\FrS.at ops outs i (FrS.at ops outs j F)=FrS.at ops outs j (FrS.at ops outs i F):=by
 obtain⟨a1,a2,a3⟩:=Oper.apart_spec hap
 obtain⟨oj',hj',fj,pj⟩:=h1
 rw[hj] at hj';cases hj'
 obtain⟨oi',hi',fi,pi⟩:=h2
 rw[hi] at hi';cases hi'
 have atj:∀G,FrS.at ops outs j G=G.app oj (outs j):=fun G=>by simp[FrS.at,hj]
 have ati:∀G,FrS.at ops outs i G=G.app oi (outs i):=fun G=>by simp[FrS.at,hi]
 rw[atj] at fi pi
 simp only[ati,atj]
 simp only[okFP,za0,zau] at hok
 obtain⟨⟨k1,k2⟩,k3⟩:=hok
 obtain⟨k1w,k1m⟩:=ztk k1
 obtain⟨k2w,k2m⟩:=ztk k2
 have wj:(fps j).w=(outs j).eff.map (·.1):=by rw[<-pj];rfl
 have wi:(fps i).w=(outs i).eff.map (·.1):=by rw[<-pi];rfl
 have nj:(fps j).nl=(outs j).nw.1/\(fps j).nh=(outs j).nw.2:=by rw[<-pj];exact⟨rfl,rfl⟩
 have ni:(fps i).nl=(outs i).nw.1/\(fps i).nh=(outs i).nw.2:=by rw[<-pi];exact⟨rfl,rfl⟩
 have mj:(fps j).m=zmr F.rd oj.op++(outs j).met:=by rw[<-pj];rfl
 have look_i:∀t∈ya1q ops oi,F.rd t=(F.app oj (outs j)).rd t:=by
  intro t ht
  rw[zjk fun e=>a1 t e ht]
 have opi:zmr F.rd oi.op=zmr (F.app oj (outs j)).rd oi.op:=zrd (zov look_i)
 have mi:(fps i).m=zmr (F.app oj (outs j)).rd oi.op++(outs i).met:=by rw[<-pi];rfl
 have si:Step P tab own ops outs fps i F:=by
  refine⟨oi,hi,zou look_i ?_ ?_ fi,?_⟩
  intro id hid
  rw[<-mi] at hid
  rw[zu2,ztf]
  intro h
  rw[<-wj] at h
  exact ztj k1m id h hid
  intro id _ _ h
  rw[zu1] at h
  simp only[effN,za0] at h
  exact h.1
  rw[<-pi];simp only[fpOf,opi]
 have look_j:∀t∈ya1q ops oj,(F.app oi (outs i)).rd t=F.rd t:=by
  intro t ht
  rw[zjk fun e=>a3 t e ht]
 have sj:Step P tab own ops outs fps j (F.app oi (outs i)):=by
  refine⟨oj,hj,zou look_j ?_ ?_ fj,?_⟩
  intro id hid
  rw[<-mj] at hid
  rw[zu2,ztf]
  intro h
  rw[<-wi] at h
  exact ztj k2m id h hid
  intro id h1 h2 h
  rw[zu1]
  simp only[effN,h,Bool.true_and,Bool.not_eq_true',Bool.and_eq_false_iff,decide_eq_false_iff_not]
  rcases k3 with k|k
  have:=lb k
  rw[nj.2,ni.1] at this
  left;omega
  have:=lb k
  rw[nj.1,ni.2] at this
  right;omega
  rw[<-pj];simp only[fpOf,zrd (zov look_j)]
 refine⟨si,sj,?_⟩
 have e1:∀t,((F.app oj (outs j)).app oi (outs i)).rd t=((F.app oi (outs i)).app oj (outs j)).rd t:=by
  intro t
  by_cases ei:oi.dst=some t
  have ej:oj.dst≠some t:=fun e=>a2 t e ei
  rw[zq2 ei,zjk ej,zq2 ei]
  by_cases ej:oj.dst=some t
  rw[zjk ei,zq2 ej,zq2 ej]
  rw[zjk ei,zjk ej,zjk ej,zjk ei]
 have e2:((F.app oj (outs j)).app oi (outs i)).hp=((F.app oi (outs i)).app oj (outs j)).hp:=by
  rw[zu2,zu2,zu2,zu2]
  funext id
  unfold effH
  cases gi:getL (outs i).eff id with
  |some b=>
   have hiw:id∈(fps i).w:=by rw[wi];exact zrv gi
   have hjn:id∉(outs j).eff.map (·.1):=fun h=>ztj k1w id (by rw[wj];exact h) hiw
   rw[zxm hjn]
  |none=>cases gj:getL (outs j).eff id<;>rfl
 have e3:((F.app oj (outs j)).app oi (outs i)).nu=((F.app oi (outs i)).app oj (outs j)).nu:=by
  rw[zu1,zu1,zu1,zu1]
  funext id
  unfold effN
  rw[Bool.and_assoc,Bool.and_assoc]
  congr 1
  exact Bool.and_comm _ _
 have:∀(A B:FrS),(∀t,A.rd t=B.rd t)->A.hp=B.hp->A.nu=B.nu->A=B:=by
  intro A B h h' h''
  cases A;cases B
  simp only[FrS.mk.injEq]
  exact⟨funext h,h',h''⟩
 exact this _ _ e1 e2 e3
inductive RunS (P:Program) (tab:Nat->TI) (own:Bool) (ops:Array Oper) (outs:Nat->Out) (fps:Nat->FP):List Nat->FrS->FrS->Prop where
 |nil (F:FrS):RunS P tab own ops outs fps [] F F
 |cons {i:Nat} {l:List Nat} {F F':FrS} (hs:Step P tab own ops outs fps i F) (h:RunS P tab own ops outs fps l (FrS.at ops outs i F) F'):RunS P tab own ops outs fps (i::l) F F'
theorem ya6g{ops:Array Oper}{outs:Nat->Out}{fps:Nat->FP}{i:Nat}{oi:Oper}(hi:ops[i]?=some oi):∀(l1 l2:List Nat) (F F':FrS),
  (∀j∈l1,∃oj,ops[j]?=some oj/\oj.apart ops oi=true/\okFP (fps j) (fps i)=true)->RunS P tab own ops outs fps (l1++i::l2) F F'->RunS P tab own ops outs fps (i::(l1++l2)) F F'
 |[],l2,F,F',_,h=>h
 |j::l1,l2,F,F',hl,h=>by
  cases h with
  |cons hs h=>
   have:=ya6g hi l1 l2 _ _ (fun k hk=>hl k (by simp[hk])) h
   cases this with
   |cons hs' h'=>
    obtain⟨oj,hj,hap,hok⟩:=hl j (by simp)
    obtain⟨s1,s2,e⟩:=ya2p hi hj hap hok hs hs'
    refine .cons s1 (.cons s2 ?_)
    rw[<-e]
    exact h'
theorem zwt{l:List Nat}(hs:l.Pairwise (·<·)){i:Nat}(hi:i∈l):∃l1 l2,l=l1++i::l2/\∀j∈l1,j<i:=by
 obtain⟨l1,l2,rfl⟩:=List.append_of_mem hi
 refine⟨l1,l2,rfl,fun j hj=>?_⟩
 rw[List.pairwise_append] at hs
 exact hs.2.2 j hj i (by simp)
def ya6i(ops:Array Oper)(listed:Array Bool):Prop:=
 ∀i o,ops[i]?=some o->listed.getD i false=true->∀e∈o.after,Region.binds .any e=true->listed.getD e.on false=true
theorem zv4{ops:Array Oper}{listed:Array Bool}(hc:ya6i ops listed):∀(f i j:Nat) (o:Oper),ops[i]?=some o->(∀e∈o.after,Region.binds .any e=true->listed.getD e.on false=true)->anc ops f i j=true->listed.getD j false=true
 |0,i,j,o,_,_,h=>by simp[anc] at h
 |f+1,i,j,o,hi,hb,h=>by
  simp only[anc,hi,List.any_eq_true,za0,zau] at h
  obtain⟨e,he,hbe,h⟩:=h
  have hl:=hb e (by simpa using he) hbe
  rcases h with h|h
  rwa [nb h] at hl
  cases ho:ops[e.on]? with
  |none=>
   cases f with
   |zero=>simp[anc] at h
   |succ f=>simp[anc,ho] at h
  |some oe=>exact zv4 hc f e.on j oe ho (hc e.on oe ho hl) h
section
variable {E : En} {n : Nat}
theorem zs7(hT:zhz P tab){ops:Array Oper}(hok:zyq n ops=true)(hsl:zvd ops=true){outs:Nat->Out}{fps:Nat->FP}(hsc:zl5 ops fps=true){F':FrS}{Q:Exit->Act->World->Prop}
  (hQ:∀a' w' g',Rel E n F' a' w' g'->Q .normal a' w'):∀(fuel:Nat) (listed:Array Bool) (L:List Nat) (F:FrS) (a:Act) (w:World) (g:Gh),
  L.length=fuel->L.Pairwise (·<·)->(∀i,i∈L↔i<ops.size/\listed.getD i true=false)->listed.size=ops.size->ya6i ops listed->RunS P tab own ops outs fps L F F'->Rel E n F a w g->
  wpAny P .any ops Q fuel listed a w
 |0,listed,L,F,a,w,σ,hl,hs,hm,hsz,hcl,hrun,hR=>by
  have hL:L=[]:=zah hl
  subst hL
  cases hrun
  refine⟨?_,hQ _ _ _ hR⟩
  apply List.eq_nil_iff_forall_not_mem.2
  intro i hi
  obtain⟨h1,o,h2,_⟩:=mem_ready.1 hi
  have:=(hm i).2 ⟨(Array.getElem?_eq_some_iff.1 h2).1,h1⟩
  cases this
 |fuel+1,listed,L,F,a,w,σ,hl,hs,hm,hsz,hcl,hrun,hR=>by
  refine⟨fun hr=>?_,fun i hi=>?_⟩
  -- the first that is left is ready
  exfalso
  cases L with
  |nil=>simp at hl
  |cons i L=>
   have hiL:=(hm i).1 (by simp)
   have hlt:=hiL.1
   have ho:ops[i]?=some ops[i]:=Array.getElem?_eq_getElem hlt
   have:i∈Region.ready .any ops listed:=by
    refine mem_ready.2 ⟨hiL.2,ops[i],ho,fun e he hb=>?_⟩
    have:=List.all_eq_true.1 hsl i (by simpa using hlt)
    simp only[ho,za0,List.all_eq_true] at this
    have hbk:=this.1 e (by simpa using he)
    rw[hb] at hbk
    simp only[Bool.not_true,Bool.false_or] at hbk
    have hblt:e.on<i:=by
     have:=lb hbk
     omega
    cases hle:listed.getD e.on false with
    |true=>rfl
    |false=>
     exfalso
     have hnl:listed.getD e.on true=false:=by
      have:e.on<listed.size:=by omega
      simp only[Array.getD,this,dite_true] at hle ⊢
      exact hle
     have:=(hm e.on).2 ⟨by omega,hnl⟩
     rcases List.mem_cons.1 this with h|h
     omega
     have:=(List.pairwise_cons.1 hs).1 e.on h
     omega
   rw[hr] at this
   cases this
  ·obtain⟨h1,oi,ho,hb⟩:=mem_ready.1 hi
   have hlt:i<ops.size:=(Array.getElem?_eq_some_iff.1 ho).1
   have hiL:=(hm i).2 ⟨hlt,h1⟩
   obtain⟨l1,l2,rfl,hl1⟩:=zwt hs hiL
   have hbub:=ya6g ho l1 l2 F F' (by
    intro j hj
    have hji:=hl1 j hj
    have hjl:=(hm j).1 (by simp[hj])
    have hoj:ops[j]?=some ops[j]:=Array.getElem?_eq_getElem hjl.1
    have hnanc:anc ops ops.size i j=false:=by
     cases ha:anc ops ops.size i j with
     |false=>rfl
     |true=>
      have:=zv4 hcl _ i j oi ho hb ha
      have h2:=hjl.2
      have:j<listed.size:=by omega
      simp only[Array.getD,this,dite_true] at*
      simp_all
    refine⟨ops[j],hoj,?_,?_⟩
    have:=List.all_eq_true.1 hsl i (by simpa using hlt)
    simp only[ho,za0] at this
    have:=List.all_eq_true.1 this.2 j (by simpa using hji)
    simpa[hnanc,hoj] using this
    have:=List.all_eq_true.1 (List.all_eq_true.1 hsc i (by simpa using hlt)) j (by simpa using hji)
    simpa[hnanc] using this) hrun
   cases hbub with
   |cons hstep hrest=>
    obtain⟨o',ho',hf,_⟩:=hstep
    rw[ho] at ho';cases ho'
    obtain⟨g1,g2,g3⟩:=zvr hok ho
    refine zot hT ho g1 g2 g3 hR hf fun v w' g' hrel=>?_
    have hat:FrS.at ops outs i F=F.app oi (outs i):=by simp[FrS.at,ho]
    rw[hat] at hrest
    refine zs7 hT hok hsl hsc hQ fuel _ (l1++l2) _ _ _ _ (by simp at hl ⊢;omega) ?_ ?_ (by simp[hsz]) ?_ hrest hrel
    rw[List.pairwise_append] at hs ⊢
    exact⟨hs.1,(List.pairwise_cons.1 hs.2.1).2,fun x hx y hy=>hs.2.2 x hx y (by simp[hy])⟩
    intro k
    have hmk:=hm k
    simp only[List.mem_append,List.mem_cons] at hmk ⊢
    by_cases hki:k=i
    subst hki
    constructor
    intro h
    exfalso
    rcases h with h|h
    exact absurd (hl1 k h) (by omega)
    rw[List.pairwise_append] at hs
    have:=(List.pairwise_cons.1 hs.2.1).1 k h
    omega
    rintro⟨_,h⟩
    exfalso
    have:k<listed.size:=by omega
    simp[Array.getD,this] at h
    rw[getD_set_ne true (fun e=>hki e.symm)]
    rw[<-hmk]
    constructor
    rintro(h|h)
    exact .inl h
    exact .inr (.inr h)
    rintro(h|h|h)
    exact .inl h
    exact absurd h hki
    exact .inr h
    intro k o hk hlk e he hbe
    by_cases hki:k=i
    subst hki
    rw[ho] at hk;cases hk
    exact getD_set_true (hb e he hbe)
    rw[getD_set_ne false (fun e=>hki e.symm)] at hlk
    exact getD_set_true (hcl k o hk hlk e he hbe)
theorem zyk(hT:zhz P tab)(hm:P.follows .mixedOrders=true){id:Nat}{ops:Array Oper}(hok:zyq n ops=true)(hsl:zvd ops=true){outs:Nat->Out}{fps:Nat->FP}(hsc:zl5 ops fps=true)
  {F F':FrS} {a:Act} {w:World} {g:Gh} {Q:Exit->Act->World->Prop} (hrun:RunS P tab own ops outs fps (List.range ops.size) F F') (hR:Rel E n F a w g)
  (hQ:∀a' w' g',Rel E n F' a' w' g'->Q .normal a' w'):(Code.region id ops true).wp P Q a w:=by
 refine wp_region_any hm ?_
 refine zs7 hT hok hsl hsc hQ ops.size _ (List.range ops.size) F a _ g (by simp) List.pairwise_lt_range ?_ (by simp) ?_ hrun (Rel.ext hR (Keep.refl _ w).drew)
 intro i
 simp only[List.mem_range]
 constructor
 intro h;exact⟨h,by simp[Array.getD,h]⟩
 exact fun h=>h.1
 intro i o hi hl
 exfalso
 have:i<ops.size:=(Array.getElem?_eq_some_iff.1 hi).1
 simp[Array.getD,this] at hl
end
end
end Go.Tm
