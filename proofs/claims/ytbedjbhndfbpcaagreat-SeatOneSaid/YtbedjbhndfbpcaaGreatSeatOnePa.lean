/- Texts of the proof. -/
import Derived.WalkKit
import Derived.Laws.IdiomCopy
import Derived.Deep.MidRow
import Derived.RangeFuncRecord
set_option linter.unusedVariables false
set_option linter.unusedSimpArgs false
theorem za0(a b:Bool):((a&&b)=true)=(a=true/\b=true):=Bool.and_eq_true a b
theorem zau(a b:Bool):((a||b)=true)=(a=true\/b=true):=Bool.or_eq_true a b
theorem zb0:(false=true)=False:=Bool.false_eq_true
theorem za1{α β:Type}(a:α)(f:α->Option β):(some a).bind f=f a:=rfl
theorem za5{α:Type}(a b:α):(some a=some b)=(a=b):=Option.some.injEq a b
theorem zaa{α β:Type}(a:α)(b:β)(c:α)(d:β):((a,b)=(c,d))=(a=c/\b=d):=Prod.mk.injEq a b c d
theorem za4(n:Nat):n<=n:=Nat.le_refl n
theorem zag{α:Type}(l:List α):l++[]=l:=List.append_nil l
theorem zas{α:Type}(l:List α):[]++l=l:=rfl
theorem zb2{α:Type}{a:α}{l k:List α}:(a::l)++k=a::(l++k):=rfl
theorem zak{α:Type}{a:α}{l:List α}:(a::l).length=l.length+1:=rfl
theorem zbo{α:Type}:([]:List α).length=0:=rfl
theorem zaq{α:Type}{l k:List α}:(l++k).length=l.length+k.length:=List.length_append
theorem zai{α β:Type}{f:α->β}{a:α}{l:List α}:(a::l).map f=f a::l.map f:=rfl
theorem za7{α:Type}{i:Nat}{l:List α}(h:i<l.length):l.drop i=l[i]::l.drop (i+1):=List.drop_eq_getElem_cons h
theorem zac{α:Type}{i:Nat}{l:List α}(h:l.length<=i):l.drop i=[]:=List.drop_of_length_le h
theorem zah{α:Type}{l:List α}(h:l.length=0):l=[]:=List.eq_nil_of_length_eq_zero h
theorem zaw{α:Type}{a:α}(b:α){l:List α}(h:a∈l):a∈b::l:=List.mem_cons_of_mem b h
theorem zap{n m:Nat}(h:n<=m):Nat.ble n m=true:=Nat.ble_eq_true_of_le h
theorem zao{n m k:Nat}(h:n<=m)(i:m<=k):n<=k:=Nat.le_trans h i
namespace Go.Tm
theorem lb{a b:Nat}(h:Nat.ble a b=true):a<=b:=Nat.le_of_ble_eq_true h
theorem sj{α:Type}{a b:α}(h:some a=some b):a=b:=Option.some.inj h
theorem ai{a b:Prop}(x:a)(y:b):a/\b:=⟨x,y⟩
theorem nb{a b:Nat}(h:Nat.beq a b=true):a=b:=Nat.eq_of_beq_eq_true h
end Go.Tm
namespace Go.Tm
inductive D where
 |bool (b:Bool)
 |int (k:IntKind) (n:Int)
 |str (l:List UInt8)
 |agg (l:List D)
 |imm (s:Nat) (l:List D) (c:Nat)
 |ref (id s off len:Nat) (cap:Option Nat)
 |ptr (id off:Nat)
 |eptr (id s i off:Nat)
 |iptr (m:Nat) (l:List D)
 |nilptr
 |tuple (l:List D)
 |fn (f:Fn) (caps:List D)
 |nilfn
 |iface (t:TypeId) (d:D)
 |nilIface
 |mref (id:Nat)
 |nilmap
 |when (c:Bool) (d:D)
 |sc
 |undef
 deriving Inhabited
inductive Blk where
 |box (cells:List D)
 |arr (e s:Nat) (p:Bool) (items:List D)
 |map (es:List (D×D))
def D.cells:D->List D
 |.agg l=>l
 |.tuple _=>[]
 |.when _ _=>[]
 |.undef=>[]
 |d=>[d]
structure Cx where
 w:World
 σ:Nat->Option (Nat×Nat)
 M:Nat->Prop
 Z:Nat->Prop
 zn:Nat->Option (Nat->Prop)
 fl:Bool
 rf:Bool
def capK(c:Nat):Bool:=Nat.ble c 9223372036854775807
abbrev Cx.noref(C:Cx):Cx:={C with rf:=false}
def Cx.at(C:Cx)(Z:Nat->Prop):Cx:={C with rf:=false,fl:=false,Z:=Z}
def Cx.zone(C:Cx)(m:Nat):Option (Nat->Prop):=if m=0 then some C.Z else C.zn m
def Unfz(w:World)(b:Nat):Prop:=∃cs T,w.heap[b]?=some (.cells cs T (0,0))
def inW(w:World)(k b:Nat):Prop:=b<w.heap.size/\(k=5->Unfz w b)
theorem inW.any{w:World}{k k' b:Nat}(h:inW w k b)(hk:k'≠5):inW w k' b:=⟨h.1,fun e=>absurd e hk⟩
def scal:Value->Bool
 |.bool _|.int _ _|.string _=>true
 | _=>false
def fnV(f:Fn)(cv:List Value):Value:=match f with
 |.yield k=>.func (.func k) cv.toArray #[]
 |f=>.func f #[] cv.toArray
theorem ya7q(f:Fn)(cv:List Value):(fnV f cv).oneCell'=true:=by cases f<;>rfl
theorem znj(f:Fn)(cv:List Value):(fnV f cv).cells=#[fnV f cv]:=by cases f<;>rfl
mutual
def rep(C:Cx):D->Value->Prop
 |.bool b,v=>v=.bool b
 |.int k n,v=>v=.int k n/\k.min<=n/\n<=k.max
 |.str l,v=>v=.string ⟨l.toArray⟩/\(l.length:Int)<=9223372036854775807
 |.agg l,v=>∃cs:List Value,v=.agg cs.toArray/\reps C l cs
 |.imm s l c,v=>∃a cap,v=.slice a l.length cap/\l.length<=cap/\(cap:Int)<=9223372036854775807/\(c%8=0->a=none)/\(c%8=1\/c%8=2->a≠none)/\(c%8<=1\/c%8=3->cap=l.length)/\(a=none->cap=0)/\(0<c/8->C.fl=true)/\
   (l=[]\/∀Z,C.zone (c/8)=some Z->∃a0,a=some a0/\a0.spot=none/\¬C.M a0.block/\Z a0.block/\inW C.w (c%8) a0.block/\zcf (C.at Z) l a0.block a0.off s)
 |.ref id s off len oc,v=>C.rf=true/\∃a cap,v=.slice a len cap/\len<=cap/\(cap:Int)<=9223372036854775807/\(a=none->cap=0)/\((∀c,oc=some c->capK c=true->cap=c)/\(oc=none->∃b T n,C.σ id=some (b,0)/\C.w.shape? b=some (T,n)/\off*s+cap*s=n))/\
   (cap=0\/∃b T n,C.σ id=some (b,0)/\a=some ⟨b,off*s,none⟩/\C.w.shape? b=some (T,n)/\off*s+cap*s<=n)
 |.ptr id off,v=>C.rf=true/\∃b o,C.σ id=some (b,o)/\v=.pointer (some ⟨b,o+off,none⟩)
 |.eptr id s i off,v=>C.rf=true/\s≠0/\∃b o,C.σ id=some (b,o)/\v=.pointer (some ⟨b,o+i*s+off,none⟩)
 |.iptr m l,v=>∃a0,v=.pointer (some a0)/\a0.spot=none/\(0<m->C.fl=true)/\(l=[]\/∀Z,C.zone m=some Z->¬C.M a0.block/\Z a0.block/\a0.block<C.w.heap.size/\cels (C.at Z) l a0.block a0.off)
 |.nilptr,v=>v=.pointer none
 |.tuple l,v=>∃vs:List Value,v=.tuple vs.toArray/\reps C l vs
 |.fn f caps,v=>∃cv:List Value,v=fnV f cv/\reps C caps cv
 |.nilfn,v=>v=.nilFunc
 |.iface t d,v=>∃x,v=.iface t x/\rep C d x
 |.nilIface,v=>v=.nilIface
 |.mref id,v=>C.rf=true/\∃b o,C.σ id=some (b,o)/\v=.map (some b)
 |.nilmap,v=>v=.map none
 |.sc,v=>scal v=true
 |.when c d,v=>(c=true->rep C d v)/\(c=false->v=undef)
 |.undef,_=>True
def reps(C:Cx):List D->List Value->Prop
 |[],vs=>vs=[]
 |d::ds,vs=>∃v vs',vs=v::vs'/\rep C d v/\reps C ds vs'
def zcf(C:Cx):List D->Nat->Nat->Nat->Prop
 |[],_,_,_=>True
 |d::ds,b,o,s=>(∃v,rep C d v/\v.cells.size=s/\v.cells.toList.all (·.oneCell')=true/\C.w.rangeAt b o v.cells.toList)/\zcf C ds b (o+s) s
def cels(C:Cx):List D->Nat->Nat->Prop
 |[],_,_=>True
 |d::ds,b,o=>(∃v,rep C d v/\C.w.cell? ⟨b,o,none⟩=some v)/\cels C ds b (o+1)
end
mutual
def D.ids:D->List Nat
 |.agg l=>D.idsL l
 |.ref id _ _ _ _=>[id]
 |.ptr id _=>[id]
 |.eptr id _ _ _=>[id]
 |.mref id=>[id]
 |.tuple l=>D.idsL l
 |.fn _ l=>D.idsL l
 |.iface _ d=>d.ids
 |.when _ d=>d.ids
 | _=>[]
def D.idsL:List D->List Nat
 |[]=>[]
 |d::ds=>d.ids++D.idsL ds
end
def zj2(w w':World)(b:Nat):Prop:=b<w'.heap.size/\∀cs T r,w.heap[b]?=some (.cells cs T r)->w'.heap[b]?=some (.cells cs T r)
theorem zj2.of_eq{w w':World}{b:Nat}(h:w'.heap[b]?=w.heap[b]?)(hb:b<w.heap.size):zj2 w w' b:=by
 refine⟨?_,fun cs T r hc=>h.trans hc⟩
 rw[Array.getElem?_eq_getElem hb] at h
 exact(Array.getElem?_eq_some_iff.1 h).1
theorem zj2.refl{w:World}{b:Nat}(hb:b<w.heap.size):zj2 w w b:=⟨hb,fun _ _ _ h=>h⟩
theorem zj2.trans{a b c:World}{k:Nat}(h:zj2 a b k)(h':zj2 b c k):zj2 a c k:=⟨h'.1,fun cs T r hc=>h'.2 cs T r (h.2 cs T r hc)⟩
theorem zj2.inW{w w':World}{b c:Nat}(h:zj2 w w' b)(hc:inW w c b):inW w' c b:=⟨h.1,fun k=>by obtain⟨cs,T,e⟩:=hc.2 k;exact⟨cs,T,h.2 cs T _ e⟩⟩
theorem inW.of_eq{w w':World}{b c:Nat}(hc:Tm.inW w c b)(h:w'.heap[b]?=w.heap[b]?):Tm.inW w' c b:=(zj2.of_eq h hc.1).inW hc
theorem zj2.cell{w w':World}{b o:Nat}{v:Value}(h:zj2 w w' b)(hc:w.cell? ⟨b,o,none⟩=some v):w'.cell? ⟨b,o,none⟩=some v:=by
 unfold World.cell? at hc ⊢
 cases hb:w.heap[b]? with
 |none=>rw[hb] at hc;simp at hc
 |some x=>
  rw[hb] at hc
  cases x with
  |cells cs T r=>rw[h.2 cs T r hb];exact hc
  | _=>simp at hc
theorem zj2.range{w w':World}{b o:Nat}{l:List Value}(hb:zj2 w w' b)(h:w.rangeAt b o l):w'.rangeAt b o l:=
 fun j v hj=>hb.cell (h j v hj)
structure Cx.Le (C C':Cx):Prop where
 blk:∀m,(m=0\/C.fl=true)->∀Z',C'.zone m=some Z'->∃Z,C.zone m=some Z/\∀b,¬C.M b->Z b->b<C.w.heap.size->¬C'.M b/\Z' b/\zj2 C.w C'.w b
 shp:∀b,b<C.w.heap.size->C'.w.shape? b=C.w.shape? b
 ff:C.fl=true->C'.fl=true
 rf:C.rf=true->C'.rf=true
 sg:C.rf=true->∀id,C.σ id≠none->C'.σ id=C.σ id
theorem Cx.Le.inner'{C C':Cx}(h:∀b,b<C.w.heap.size->C'.w.shape? b=C.w.shape? b){Z Z':Nat->Prop}(hz:∀b,¬C.M b->Z b->b<C.w.heap.size->¬C'.M b/\Z' b/\zj2 C.w C'.w b):(C.at Z).Le (C'.at Z'):=by
 refine⟨fun m hm Z'' hZ=>?_,h,(fun x=>by cases x),(fun x=>by cases x),(fun x=>by cases x)⟩
 rcases hm with rfl|hm
 simp only[Cx.zone,Cx.at,if_true,za5] at hZ ⊢
 subst hZ
 exact⟨Z,rfl,hz⟩
 cases hm
theorem Cx.Le.inner{C C':Cx}(h:∀b,b<C.w.heap.size->C'.w.shape? b=C.w.shape? b){Z Z':Nat->Prop}(hz:∀b,¬C.M b->Z b->b<C.w.heap.size->¬C'.M b/\Z' b/\C'.w.heap[b]?=C.w.heap[b]?):(C.at Z).Le (C'.at Z'):=
 Cx.Le.inner' h fun b h1 h2 h3=>⟨(hz b h1 h2 h3).1,(hz b h1 h2 h3).2.1,.of_eq (hz b h1 h2 h3).2.2 h3⟩
theorem Cx.Le.refl(C:Cx):C.Le C:=⟨fun _ _ Z' h=>⟨Z',h,fun _ h1 h2 h3=>⟨h1,h2,.refl h3⟩⟩,fun _ _=>rfl,id,id,fun _ _ _=>rfl⟩
theorem Cx.Le.trans{A B C:Cx}(h:A.Le B)(k:B.Le C)(hs:A.w.heap.size<=B.w.heap.size):A.Le C:=by
 refine⟨fun m hm Z' hZ=>?_,fun b hb=>(k.shp b (by omega)).trans (h.shp b hb),fun x=>k.ff (h.ff x),fun x=>k.rf (h.rf x),fun x id hid=>?_⟩
 obtain⟨Z1,h1,h2⟩:=k.blk m (hm.imp_right h.ff) Z' hZ
 obtain⟨Z2,h3,h4⟩:=h.blk m hm Z1 h1
 refine⟨Z2,h3,fun b g1 g2 g3=>?_⟩
 obtain⟨e1,e2,e3⟩:=h4 b g1 g2 g3
 obtain⟨f1,f2,f3⟩:=h2 b e1 e2 (by omega)
 exact⟨f1,f2,e3.trans f3⟩
 have:=h.sg x id hid
 rw[k.sg (h.rf x) id (by rwa [this]),this]
theorem zp6{w:World}{b:Nat}{x}(h:w.shape? b=some x):b<w.heap.size:=by
 unfold World.shape? at h
 split at h
 rename_i hb;exact(Array.getElem?_eq_some_iff.1 hb).1
 simp at h
theorem zoe{w w':World}{b o:Nat}{l:List Value}(h:w.rangeAt b o l)(hb:w'.heap[b]?=w.heap[b]?):w'.rangeAt b o l:=by
 intro j v hj
 have:=h j v hj
 unfold World.cell? at*
 simp only[hb]
 exact this
theorem zxb{w w':World}{b:Nat}(h:w'.heap[b]?=w.heap[b]?)(hb:b<w.heap.size):b<w'.heap.size:=by
 rw[Array.getElem?_eq_getElem hb] at h
 exact(Array.getElem?_eq_some_iff.1 h).1
mutual
theorem zfv{C C':Cx}(h:C.Le C'):∀(d:D) (v:Value),rep C d v->rep C' d v
 |.bool b,v,hr=>by simpa only[rep] using hr
 |.int k n,v,hr=>by simpa only[rep] using hr
 |.str l,v,hr=>by simpa only[rep] using hr
 |.agg l,v,hr=>by
  simp only[rep] at hr ⊢
  obtain⟨cs,rfl,hc⟩:=hr
  exact⟨cs,rfl,zhr h l cs hc⟩
 |.imm s l c,v,hr=>by
  simp only[rep] at hr ⊢
  obtain⟨a,cap,rfl,h1,h2,h3,h4,h5,h6,hfl,h7⟩:=hr
  refine⟨a,cap,rfl,h1,h2,h3,h4,h5,h6,fun x=>h.ff (hfl x),?_⟩
  rcases h7 with h7|h7
  exact .inl h7
  right
  intro Z' hZ'
  obtain⟨Z,hZ,hz⟩:=h.blk (c/8) (by rcases Nat.eq_zero_or_pos (c/8) with e|e;exact .inl e;exact .inr (hfl e)) Z' hZ'
  obtain⟨a0,ha,hs,hM,hlo,hb,he⟩:=h7 Z hZ
  obtain⟨g1,g2,g3⟩:=hz _ hM hlo hb.1
  exact⟨a0,ha,hs,g1,g2,g3.inW hb,zxs (C:=C.at Z) (C':=C'.at Z') (Cx.Le.inner' h.shp hz) l _ _ _ g3 he⟩
 |.ref id s off len oc,v,hr=>by
  simp only[rep] at hr ⊢
  obtain⟨h0,a,cap,rfl,h1,h2,h3,hoc,h4⟩:=hr
  refine⟨h.rf h0,a,cap,rfl,h1,h2,h3,⟨hoc.1,fun ho=>by
   obtain⟨b,T,n,hσ,hsh,hn⟩:=hoc.2 ho
   exact⟨b,T,n,by rw[h.sg h0 id (by rw[hσ];simp),hσ],by rw[h.shp _ (zp6 hsh),hsh],hn⟩⟩,?_⟩
  rcases h4 with h4|⟨b,T,n,hσ,ha,hsh,hn⟩
  exact .inl h4
  exact .inr ⟨b,T,n,by rw[h.sg h0 id (by rw[hσ];simp),hσ],ha,by rw[h.shp _ (zp6 hsh),hsh],hn⟩
 |.ptr id off,v,hr=>by
  simp only[rep] at hr ⊢
  obtain⟨h0,b,o,hσ,rfl⟩:=hr
  exact⟨h.rf h0,b,o,by rw[h.sg h0 id (by rw[hσ];simp),hσ],rfl⟩
 |.eptr id s i off,v,hr=>by
  simp only[rep] at hr ⊢
  obtain⟨h0,hs0,b,o,hσ,rfl⟩:=hr
  exact⟨h.rf h0,hs0,b,o,by rw[h.sg h0 id (by rw[hσ];simp),hσ],rfl⟩
 |.iptr m l,v,hr=>by
  simp only[rep] at hr ⊢
  obtain⟨a0,rfl,hs,hfl,hr⟩:=hr
  refine⟨a0,rfl,hs,fun x=>h.ff (hfl x),?_⟩
  rcases hr with hr|hr
  exact .inl hr
  right
  intro Z' hZ'
  obtain⟨Z,hZ,hz⟩:=h.blk m (by rcases Nat.eq_zero_or_pos m with e|e;exact .inl e;exact .inr (hfl e)) Z' hZ'
  obtain⟨hM,hlo,hb,he⟩:=hr Z hZ
  obtain⟨g1,g2,g3⟩:=hz _ hM hlo hb
  exact⟨g1,g2,g3.1,ya0z (C:=C.at Z) (C':=C'.at Z') (Cx.Le.inner' h.shp hz) l _ _ g3 he⟩
 |.nilptr,v,hr=>by simpa only[rep] using hr
 |.tuple l,v,hr=>by
  simp only[rep] at hr ⊢
  obtain⟨cs,rfl,hc⟩:=hr
  exact⟨cs,rfl,zhr h l cs hc⟩
 |.fn f l,v,hr=>by
  simp only[rep] at hr ⊢
  obtain⟨cs,rfl,hc⟩:=hr
  exact⟨cs,rfl,zhr h l cs hc⟩
 |.nilfn,v,hr=>by simpa only[rep] using hr
 |.iface t d,v,hr=>by
  simp only[rep] at hr ⊢
  obtain⟨x,rfl,hx⟩:=hr
  exact⟨x,rfl,zfv h d x hx⟩
 |.nilIface,v,hr=>by simpa only[rep] using hr
 |.mref id,v,hr=>by
  simp only[rep] at hr ⊢
  obtain⟨h0,b,o,hσ,rfl⟩:=hr
  exact⟨h.rf h0,b,o,by rw[h.sg h0 id (by rw[hσ];simp),hσ],rfl⟩
 |.nilmap,v,hr=>by simpa only[rep] using hr
 |.sc,v,hr=>by simpa only[rep] using hr
 |.when c d,v,hr=>by
  simp only[rep] at hr ⊢
  exact⟨fun hc=>zfv h d v (hr.1 hc),hr.2⟩
 |.undef,v,_=>by simp only[rep]
theorem zhr{C C':Cx}(h:C.Le C'):∀(l:List D) (vs:List Value),reps C l vs->reps C' l vs
 |[],vs,hr=>by simpa only[reps] using hr
 |d::ds,vs,hr=>by
  simp only[reps] at hr ⊢
  obtain⟨v,vs',rfl,h1,h2⟩:=hr
  exact⟨v,vs',rfl,zfv h d v h1,zhr h ds vs' h2⟩
theorem zxs{C C':Cx}(h:C.Le C'):∀(l:List D) (b o s:Nat),zj2 C.w C'.w b->zcf C l b o s->zcf C' l b o s
 |[],_,_,_,_,_=>by simp only[zcf]
 |d::ds,b,o,s,hb,hr=>by
  simp only[zcf] at hr ⊢
  obtain⟨⟨v,h1,h2,h2',h3⟩,h4⟩:=hr
  exact⟨⟨v,zfv h d v h1,h2,h2',hb.range h3⟩,zxs h ds b (o+s) s hb h4⟩
theorem ya0z{C C':Cx}(h:C.Le C'):∀(l:List D) (b o:Nat),zj2 C.w C'.w b->cels C l b o->cels C' l b o
 |[],_,_,_,_=>by simp only[cels]
 |d::ds,b,o,hb,hr=>by
  simp only[cels] at hr ⊢
  obtain⟨⟨v,h1,h3⟩,h4⟩:=hr
  exact⟨⟨v,zfv h d v h1,hb.cell h3⟩,ya0z h ds b (o+1) hb h4⟩
end
theorem zh2{C C':Cx}(h:C.Le C'):∀(l:List D) (b o s:Nat),C'.w.heap[b]?=C.w.heap[b]?->zcf C l b o s->zcf C' l b o s
 |[],_,_,_,_,_=>by simp only[zcf]
 |d::ds,b,o,s,hb,hr=>by
  simp only[zcf] at hr ⊢
  obtain⟨⟨v,h1,h2,h2',h3⟩,h4⟩:=hr
  exact⟨⟨v,zfv h d v h1,h2,h2',zoe h3 hb⟩,zh2 h ds b (o+s) s hb h4⟩
theorem ztp{C C':Cx}(h:C.Le C'):∀(l:List D) (b o:Nat),C'.w.heap[b]?=C.w.heap[b]?->cels C l b o->cels C' l b o
 |[],_,_,_,_=>by simp only[cels]
 |d::ds,b,o,hb,hr=>by
  simp only[cels] at hr ⊢
  obtain⟨⟨v,h1,h3⟩,h4⟩:=hr
  refine⟨⟨v,zfv h d v h1,?_⟩,ztp h ds b (o+1) hb h4⟩
  unfold World.cell? at*
  simp only[hb]
  exact h3
def unk(c:Nat):Nat:=bif Nat.beq (c%8) 5 then 4 else c%8
theorem yaaj{c:Nat}(h:c%8=5):unk c=4:=by unfold unk;rw[h];rfl
theorem ya89{c:Nat}(h:c%8≠5):unk c=c%8:=by
 unfold unk
 cases hb:Nat.beq (c%8) 5
 rfl
 exact absurd (nb hb) h
theorem zwn(c:Nat):(c%8=5/\unk c=4)\/(c%8≠5/\unk c=c%8):=by
 by_cases h:c%8=5
 exact .inl ⟨h,yaaj h⟩
 exact .inr ⟨h,ya89 h⟩
mutual
def unf:D->D
 |.imm s l c=>.imm s l (unk c)
 |.iptr _ l=>.iptr 0 l
 |.agg l=>.agg (unfL l)
 |.tuple l=>.tuple (unfL l)
 |.iface t d=>.iface t (unf d)
 |.fn f l=>.fn f (unfL l)
 |.when c d=>.when c (unf d)
 |d=>d
def unfL:List D->List D
 |[]=>[]
 |d::ds=>unf d::unfL ds
end
mutual
def mkM(m:Nat):D->D
 |.imm s l c=>.imm s l (c%8+8*m)
 |.iptr _ l=>.iptr m l
 |.agg l=>.agg (mkML m l)
 |.tuple l=>.tuple (mkML m l)
 |.iface t d=>.iface t (mkM m d)
 |.fn f l=>.fn f (mkML m l)
 |.when c d=>.when c (mkM m d)
 |d=>d
def mkML(m:Nat):List D->List D
 |[]=>[]
 |d::ds=>mkM m d::mkML m ds
end
mutual
def okM(q:Nat->Bool):D->Bool
 |.imm _ l c=>q (c/8)||l.isEmpty
 |.iptr m _=>q m
 |.agg l=>okML q l
 |.tuple l=>okML q l
 |.iface _ d=>okM q d
 |.fn _ l=>okML q l
 |.when _ d=>okM q d
 | _=>true
def okML(q:Nat->Bool):List D->Bool
 |[]=>true
 |d::ds=>okM q d&&okML q ds
end
def low3(m:Nat):Bool:=Nat.blt m 3
def new1(m:Nat):Bool:=Nat.beq m 1
structure FrS where
 rd:Nat->D
 hp:Nat->Option Blk
 nu:Nat->Bool
structure Gh where
 σ:Nat->Option (Nat×Nat)
 Z:Nat->Prop
 zn:Nat->Option (Nat->Prop)
def ownB(g:Gh)(hp:Nat->Option Blk)(b:Nat):Prop:=∃id o,hp id≠none/\g.σ id=some (b,o)
def cx(w:World)(g:Gh)(hp:Nat->Option Blk):Cx:=⟨w,g.σ,ownB g hp,g.Z,g.zn,true,true⟩
def yaab(C:Cx)(x:D×D)(e:MapEntry):Prop:=rep C x.1 e.key/\rep C x.2 e.val
def zey(C:Cx):List (D×D)->List MapEntry->Prop
 |[],es=>es=[]
 |x::xs,es=>∃e es',es=e::es'/\yaab C x e/\zey C xs es'
def holds(C:Cx)(id:Nat):Blk->Prop
 |.box cells=>∃b cs T,C.σ id=some (b,0)/\C.w.heap[b]?=some (.cells cs T (0,0))/\reps C cells cs.toList/\cs.toList.all (·.oneCell')=true
 |.arr e s p items=>(items=[]/\C.σ id=none)\/∃b cs,C.σ id=some (b,0)/\C.w.heap[b]?=some (.cells cs e (0,0))/\items.length*s<=cs.size/\zcf {C with rf:=!p} items b 0 s
 |.map es=>∃b ens clock,C.σ id=some (b,0)/\C.w.heap[b]?=some (.map ens clock)/\zey C es ens.toList
structure Keep (X:Nat->Prop) (w w':World):Prop where
 os:w'.os=w.os
 tape:w'.tape=w.tape
 output:w'.output=w.output
 size:w.heap.size<=w'.heap.size
 block:∀k,k<w.heap.size->¬X k->w'.heap[k]?=w.heap[k]?
 shp:∀k,k<w.heap.size->w'.shape? k=w.shape? k
theorem zle{w w':World}{b:Nat}(h:w'.heap[b]?=w.heap[b]?):w'.shape? b=w.shape? b:=by
 unfold World.shape?;rw[h]
theorem Keep.refl(X:Nat->Prop)(w:World):Keep X w w:=⟨rfl,rfl,rfl,za4 _,fun _ _ _=>rfl,fun _ _=>rfl⟩
theorem Keep.trans{X:Nat->Prop}{a b c:World}(h:Keep X a b)(k:Keep (fun i=>X i\/a.heap.size<=i) b c):Keep X a c:=
 ⟨k.os.trans h.os,k.tape.trans h.tape,k.output.trans h.output,zao h.size k.size,
  fun i hi hx=>(k.block i (Nat.lt_of_lt_of_le hi h.size) (fun h1=>h1.elim hx (fun h2=>by omega))).trans (h.block i hi hx),
  fun i hi=>(k.shp i (Nat.lt_of_lt_of_le hi h.size)).trans (h.shp i hi)⟩
theorem Keep.mono{X Y:Nat->Prop}{a b:World}(h:Keep X a b)(hxy:∀i,i<a.heap.size->X i->Y i):Keep Y a b:=
 ⟨h.os,h.tape,h.output,h.size,fun k hk hy=>h.block k hk fun hx=>hy (hxy k hk hx),h.shp⟩
theorem Keep.below{w w':World}(h:Keep (fun _=>False) w w'):Go.RowKit.Below w.heap.size w w':=
 ⟨h.os,h.tape,h.output,h.size,fun k hk=>h.block k hk id⟩
theorem Keep.of_below{X:Nat->Prop}{w w':World}(h:Go.RowKit.Below w.heap.size w w'):Keep X w w':=
 ⟨h.os,h.tape,h.output,h.size,fun k hk _=>h.block k hk,fun k hk=>zle (h.block k hk)⟩
theorem Keep.drew{X:Nat->Prop}{a w:World}(h:Keep X a w):Keep X a w.drew:=⟨h.os,h.tape,h.output,h.size,h.block,h.shp⟩
structure Zones (fr:Nat) (g:Gh) (M:Nat->Prop) (sz:Nat):Prop where
 z0:∀b,sz<=b->g.Z b
 z1:∃Z1,g.zn 1=some Z1/\(∀b,Z1 b->fr<=b/\g.Z b)/\∀b,sz<=b->Z1 b
 z2:∃Z2,g.zn 2=some Z2/\∀b,Z2 b->b<fr/\g.Z b
 zr:∀m Zm,3<=m->g.zn m=some Zm->∀b,Zm b->b<sz/\fr<=b/\g.Z b/\¬M b/\∀m' Zm',m'≠m->3<=m'->g.zn m'=some Zm'->¬Zm' b
 zo:∀b,M b->fr<=b/\g.Z b/\∃Z1,g.zn 1=some Z1/\Z1 b
def yaay:Option Value:=none
def Gw(fr:Nat)(w:World):Prop:=∀v,yaay=some v->0<fr/\w.cell? ⟨0,0,none⟩=some v
structure Fl (fr:Nat) (w:World):Prop where
 le:fr<=w.heap.size
 gl:Gw fr w
theorem Fl.gw{fr:Nat}{w:World}(h:Fl fr w):Gw w.heap.size w:=fun v hv=>⟨Nat.lt_of_lt_of_le (h.gl v hv).1 h.le,(h.gl v hv).2⟩
theorem Fl.of{fr:Nat}{w w':World}(h:Fl fr w)(hs:w.heap.size<=w'.heap.size)(hb:0<fr->0<w.heap.size->w'.heap[0]?=w.heap[0]?):Fl fr w':=by
 refine⟨zao h.le hs,fun v hv=>?_⟩
 obtain⟨h1,h2⟩:=h.gl v hv
 refine⟨h1,?_⟩
 unfold World.cell? at h2 ⊢
 simp only[hb h1 (Nat.lt_of_lt_of_le h1 h.le)]
 exact h2
theorem Fl.obj{fr:Nat}{w:World}(h:Fl fr w){l:Nat}{o o':Obj}(hl:w.heap[l]?=some o)(ho:∀cs T f,o≠.cells cs T f):Fl fr (w.putObj l o'):=by
 refine⟨by rw[World.putObj_size];exact h.le,fun v hv=>?_⟩
 obtain⟨h1,h2⟩:=h.gl v hv
 refine⟨h1,?_⟩
 have hne:(0:Nat)≠l:=by
  rintro rfl
  unfold World.cell? at h2
  simp only[hl] at h2
  cases o<;>first|(exact ho _ _ _ rfl)|(cases h2)
 unfold World.cell? at h2 ⊢
 rw[World.putObj_heap_other hne]
 exact h2
structure Mem (fr:Nat) (w:World) (g:Gh) (hp:Nat->Option Blk) (nu:Nat->Bool):Prop where
 hd:∀id blk,hp id=some blk->holds (cx w g hp) id blk
 inj:∀id id' b o o',hp id≠none->hp id'≠none->g.σ id=some (b,o)->g.σ id'=some (b,o')->id=id'
 nw:∀id,nu id=true->g.σ id=none/\hp id=none
 zs:Zones fr g (ownB g hp) w.heap.size
 fl:Fl fr w
structure En where
 w0:World
 fr:Nat
 X:Nat->Prop
 g0:Gh
 nu0:Nat->Bool
structure Rel (E:En) (n:Nat) (F:FrS) (a:Act) (w:World) (g:Gh):Prop where
 sz:n<=a.tmps.size
 df:a.defers=[]
 rd:∀t,rep (cx w g F.hp) (F.rd t) (a.eval (.tmp t))
 mem:Mem E.fr w g F.hp F.nu
 base:∀id b o,F.hp id≠none->g.σ id=some (b,o)->E.w0.heap.size<=b\/E.X b
 keep:Keep E.X E.w0 w
 gz:g.Z=E.g0.Z/\g.zn=E.g0.zn
 gs:∀id,E.nu0 id=false->g.σ id=E.g0.σ id
 nu:∀id,F.nu id=true->E.nu0 id=true
theorem zw1{C:Cx}{id:Nat}{blk:Blk}(h:holds C id blk){b o:Nat}(hs:C.σ id=some (b,o)):b<C.w.heap.size/\o=0:=by
 cases blk with
 |box cells=>
  obtain⟨b1,cs,T,h1,h2,_⟩:=h
  have e:=h1.symm.trans hs
  simp only[za5,zaa] at e
  obtain⟨rfl,rfl⟩:=e
  exact⟨(Array.getElem?_eq_some_iff.1 h2).1,rfl⟩
 |arr e s p items=>
  rcases h with⟨_,h1⟩|⟨b1,cs,h1,h2,_⟩
  rw[hs] at h1;cases h1
  have e:=h1.symm.trans hs
  simp only[za5,zaa] at e
  obtain⟨rfl,rfl⟩:=e
  exact⟨(Array.getElem?_eq_some_iff.1 h2).1,rfl⟩
 |map es=>
  obtain⟨b1,ens,clock,h1,h2,_⟩:=h
  have e:=h1.symm.trans hs
  simp only[za5,zaa] at e
  obtain⟨rfl,rfl⟩:=e
  exact⟨(Array.getElem?_eq_some_iff.1 h2).1,rfl⟩
theorem Mem.own_lt{fr w g hp nu}(h:Mem fr w g hp nu){b:Nat}(hb:ownB g hp b):b<w.heap.size:=by
 obtain⟨id,o,h1,h2⟩:=hb
 obtain⟨x,hx⟩:=Option.ne_none_iff_exists'.1 h1
 exact(zw1 (C:=cx w g hp) (h.hd id x hx) h2).1
def getL{α:Type}:List (Nat×α)->Nat->Option α
 |[],_=>none
 |(a,x)::r,t=>bif Nat.beq a t then some x else getL r t
def effH(hp:Nat->Option Blk)(eff:List (Nat×Option Blk)):Nat->Option Blk:=fun id=>match getL eff id with|some b=>b|none=>hp id
def effN(nu:Nat->Bool)(nw:Nat×Nat):Nat->Bool:=fun id=>nu id&&!(decide (nw.1<=id)&&decide (id<nw.2))
def FrS.eff(F:FrS)(eff:List (Nat×Option Blk))(nw:Nat×Nat):FrS:=⟨F.rd,effH F.hp eff,effN F.nu nw⟩
structure TI where
 kind:Nat
 size:Nat
 offs:List (Nat×Nat×Bool)
 zero:List D
 el:Nat
 esz:Nat
 eby:Nat
 eagg:Bool
 ik:Option IntKind
 eqs:Bool:=false
 ezero:List D:=[]
 deriving Inhabited
def zoh(P:Program)(t:TypeId):Bool:=
 match P.underlying t with
 |some (.struct _)|some (.array _ _)=>true
 | _=>false
def zfp:List D->List Value->Bool
 |[],[]=>true
 |.bool b::ds,.bool b'::vs=>b==b'&&zfp ds vs
 |.int k n::ds,.int k' n'::vs=>decide (k=k')&&n==n'&&decide (k.min<=n)&&decide (n<=k.max)&&zfp ds vs
 |.str []::ds,.string s::vs=>s.size==0&&zfp ds vs
 |.imm _ [] 0::ds,.slice none 0 0::vs=>zfp ds vs
 |.nilptr::ds,.pointer none::vs=>zfp ds vs
 |.nilfn::ds,.nilFunc::vs=>zfp ds vs
 |.nilIface::ds,.nilIface::vs=>zfp ds vs
 |.nilmap::ds,.map none::vs=>zfp ds vs
 | _,_=>false
def zpl:Value->Bool
 |.agg _=>true
 | _=>false
def zd3(P:Program)(t:TypeId)(ti:TI):Bool:=
 match P.info? t,P.underlying t with
 |some i,some d=>
  i.size==ti.size&&(match i.zero with|some z=>zfp ti.zero z.cells.toList|none=>false)&&
  match d with
  |.struct fs=>ti.kind==2&&ti.offs==fs.toList.map (fun f=>(f.offset,P.cellsOf f.type,zoh P f.type))&&fs.toList.all (fun f=>(P.info? f.type).isSome&&(P.underlying f.type).isSome&&P.cellsOf f.type !=0)
  |.slice e=>ti.kind==3&&(match P.info? e with|some j=>j.size==ti.esz&&j.bytes==ti.eby&&j.bytes !=0&&j.size !=0&&(match j.zero with|some z=>z.cells.size==j.size&&zfp ti.ezero z.cells.toList&&zpl z==ti.eagg|none=>false)|none=>false)&&ti.el==e&&(zoh P e==ti.eagg)
  |.array n e=>ti.kind==4&&(match P.info? e with|some j=>j.size==1|none=>false)&&ti.size==n&&ti.offs==(List.range n).map (fun i=>(i,1,false))
  |.string=>ti.kind==5
  |.int k=>ti.kind==6&&ti.ik==some k
  |.pointer _|.func _ _ _=>ti.kind==1
  |.bool=>ti.kind==8
  |.interface _=>ti.kind==7
  |.map k v=>ti.kind==9&&ti.el==k&&(match P.info? v with|some j=>j.size==ti.esz&&(match j.zero with|some z=>zfp ti.ezero z.cells.toList&&zpl z==ti.eagg|none=>false)|none=>false)&&(zoh P v==ti.eagg)
  | _=>false
 | _,_=>false
def zlv(P:Program):Nat->List Field->List D->Bool
 | _,[],[]=>true
 |j,f::fs,z::zs=>Nat.beq f.offset j&&Nat.beq (P.cellsOf f.type) 1&&f.name != "_"&&(match P.underlying f.type,z with
   |some (.int k),.int k' _=>decide (k=k')
   |some .string,.str _=>true
   |some .bool,.bool _=>true
   | _,_=>false)&&zlv P (j+1) fs zs
 | _,_,_=>false
def ya7r(P:Program)(t:TypeId)(z:List D):Bool:=
 match P.underlying t,z with
 |some (.int k),[.int k' _]=>decide (k=k')
 |some .string,[.str _]=>true
 |some .bool,[.bool _]=>true
 |some (.struct fs),z=>zlv P 0 fs.toList z&&P.cellsOf t==fs.size
 | _,_=>false
def zk3(P:Program):Nat->List Field->List D->Bool
 | _,[],z=>z.isEmpty
 |j,f::fs,z=>Nat.beq f.offset j&&f.name != "_"&&Nat.ble (P.cellsOf f.type) z.length&&ya7r P f.type (z.take (P.cellsOf f.type))&&zk3 P (j+P.cellsOf f.type) fs (z.drop (P.cellsOf f.type))
def zgc:List D->List D->List D->Option Bool
 |[],[],[]=>some true
 |.int k _::z,.int k1 a::l,.int k2 b::l'=>bif decide (k1=k)&&decide (k2=k) then(match zgc z l l' with|some r=>some ((a==b)&&r)|none=>none) else none
 |.str _::z,.str a::l,.str b::l'=>match zgc z l l' with|some r=>some ((a==b)&&r)|none=>none
 |.bool _::z,.bool a::l,.bool b::l'=>match zgc z l l' with|some r=>some ((a==b)&&r)|none=>none
 | _,_,_=>none
def zuy(P:Program)(t:TypeId)(ti:TI):Bool:=
 match P.underlying t with
 |some (.struct fs)=>P.keyTypeAt 3 t&&!P.eqGuardType P.depth t&&zk3 P 0 fs.toList ti.zero&&P.cellsOf t==ti.zero.length
 | _=>false
end Go.Tm
namespace Go.Tm
def zu9:Value->D
 |.bool b=>.bool b
 |.int k n=>.int k n
 |.string s=>.str s.data.toList
 |.slice none 0 0=>.imm 0 [] 0
 |.pointer none=>.nilptr
 |.nilFunc=>.nilfn
 |.nilIface=>.nilIface
 |.map none=>.nilmap
 | _=>.undef
def ya55:Value->Bool
 |.int k n=>decide (k.min<=n)&&decide (n<=k.max)
 |.string s=>decide ((s.data.toList.length:Int)<=9223372036854775807)
 | _=>true
def ev(rd:Nat->D):Operand->D
 |.tmp t=>rd t
 |.const v=>zu9 v
 |.func f=>.fn (.func f) []
 |.global _=>.undef
def opd(g:Bool)(rd:Nat->D)(x:Operand):D×Bool:=
 match ev rd x with
 |.when c d=>(d,!g||c)
 |d=>(d,true)
structure Out where
 d:D
 vc:Bool
 eff:List (Nat×Option Blk):=[]
 nw:Nat×Nat:=(0,0)
 met:List Nat:=[]
@[irreducible] def wr(k:IntKind)(n:Int):Int:=k.wrap n
@[irreducible] def nth(l:List D)(i:Nat):D:=l.getD i .undef
@[irreducible] def bitw(op:BinOp)(k:IntKind)(a b:Int):Int:=bits op k a b
@[irreducible] def shw(l:Bool)(k:IntKind)(a b:Int):Int:=
 bif l then k.wrap (a*2 ^ (min b.toNat k.bits)) else a.fdiv (2 ^ (min b.toNat k.bits))
def zy2(op:BinOp)(k:IntKind)(a b:Int):Option (D×Bool):=
 match op with
 |.add=>some (.int k (wr k (a+b)),true)
 |.sub=>some (.int k (wr k (a-b)),true)
 |.mul=>some (.int k (wr k (a*b)),true)
 |.quo=>some (.int k (wr k (a.tdiv b)),!decide (b=0))
 |.rem=>some (.int k (a.tmod b),!decide (b=0))
 |.eql=>some (.bool (a==b),true)
 |.neq=>some (.bool (a !=b),true)
 |.lss=>some (.bool (decide (a<b)),true)
 |.leq=>some (.bool (decide (a<=b)),true)
 |.gtr=>some (.bool (decide (a>b)),true)
 |.geq=>some (.bool (decide (a>=b)),true)
 |.and|.or|.xor|.andNot=>some (.int k (bitw op k a b),true)
 | _=>none
def zp7(op:BinOp)(a b:List UInt8):Option (D×Bool):=
 match op with
 |.add=>some (.str (a++b),decide (((a.length+b.length:Nat):Int)<=9223372036854775807))
 |.eql=>some (.bool (a==b),true)
 |.neq=>some (.bool !(a==b),true)
 |.lss=>some (.bool (Op.bytesLess a b),true)
 |.leq=>some (.bool (Op.bytesLess a b||(a==b)),true)
 |.gtr=>some (.bool !(Op.bytesLess a b||(a==b)),true)
 |.geq=>some (.bool !(Op.bytesLess a b),true)
 | _=>none
def bin(op:BinOp)(x y:D):Option (D×Bool):=
 match x,y with
 |.int k a,.int k' b=>match op with
  |.shl=>some (.int k (shw true k a b),decide (0<=b))
  |.shr=>some (.int k (shw false k a b),decide (0<=b))
  | _=>bif decide (k=k') then zy2 op k a b else none
 |.str a,.str b=>zp7 op a b
 |.bool a,.bool b=>match op with
  |.eql=>some (.bool (a==b),true)
  |.neq=>some (.bool !(a==b),true)
  | _=>none
 |.imm _ _ c,.imm _ [] 0=>match op with
  |.eql=>some (.bool (c%8==0),Nat.ble (c%8) 2)
  |.neq=>some (.bool !(c%8==0),Nat.ble (c%8) 2)
  | _=>none
 |.ref _ _ _ len _,.imm _ [] 0=>match op with
  |.eql=>some (.bool false,Nat.blt 0 len)
  |.neq=>some (.bool true,Nat.blt 0 len)
  | _=>none
 |.nilIface,.nilIface=>match op with
  |.eql=>some (.bool true,true)
  |.neq=>some (.bool false,true)
  | _=>none
 |.iface _ _,.nilIface=>match op with
  |.eql=>some (.bool false,true)
  |.neq=>some (.bool true,true)
  | _=>none
 | _,_=>none
def cstO:Operand->Operand->Bool
 |.const _,_=>true
 | _,.const _=>true
 | _,_=>false
def binT(ti:TI)(c:Bool):D->Bool
 |.bool _=>ti.kind==8
 |.imm _ _ _=>ti.kind==3
 |.ref _ _ _ _ _=>ti.kind==3
 |.nilIface=>ti.kind==7&&c
 |.iface _ _=>ti.kind==7
 | _=>true
def zua(b:Bool):D->D->Option D
 |.bool x,.bool y=>some (.bool (bif b then x else y))
 |.int k x,.int k' y=>bif decide (k=k') then some (.int k (bif b then x else y)) else none
 |.str x,.str y=>some (.str (bif b then x else y))
 |x,y=>match b with
  |true=>some x
  |false=>some y
def part(agg:Bool)(n:Nat)(l:List D):Option D:=
 bif agg then some (.agg (l.take n)) else match l with
  |d::_=>some d
  |[]=>none
def zn7(l:List D)(off:Nat)(new:List D):List D:=l.take off++new++l.drop (off+new.length)
def zqp(offs:List (Nat×Nat×Bool))(cells:List D):List (Nat×D)->Option (List D×Bool)
 |[]=>some (cells,true)
 |(i,d)::r=>match offs[i]? with
  |some (o,n,_)=>match zqp offs (zn7 cells o d.cells) r with
   |some (c,p)=>some (c,Nat.beq d.cells.length n&&Nat.ble (o+n) cells.length&&p)
   |none=>none
  |none=>none
def zo5(g:Bool)(rd:Nat->D):List (Nat×Operand)->List (Nat×D)×Bool
 |[]=>([],true)
 |(i,x)::r=>match opd g rd x,zo5 g rd r with
  |(d,p),(ds,q)=>((i,d)::ds,p&&q)
def oneD:D->Bool
 |.agg _|.tuple _|.when _ _|.undef=>false
 | _=>true
def mkZ(m:Nat)(d:D):D:=match m with
 |0=>d
 |m+1=>mkM (m+1) d
def mkZL(m:Nat)(l:List D):List D:=match m with
 |0=>l
 |m+1=>mkML (m+1) l
def zql(hp:Nat->Option Blk)(agg:Bool)(n:Nat):D->Option (D×Bool)
 |.iptr m l=>match part agg n l with
  |some d=>some (mkZ m d,Nat.ble n l.length&&Nat.blt m 3)
  |none=>none
 |.ptr id off=>match hp id with
  |some (.box cs)=>match part agg n (cs.drop off) with
   |some d=>some (d,Nat.ble (off+n) cs.length)
   |none=>none
  | _=>none
 |.eptr id s i off=>match hp id with
  |some (.arr _ s' _ items)=>match part agg n ((nth items i).cells.drop off) with
   |some d=>some (d,Nat.beq s' s&&Nat.blt i items.length&&Nat.ble (off+n) (nth items i).cells.length)
   |none=>none
  | _=>none
 | _=>none
def ya1c(old:D)(off:Nat)(new:List D):D:=match old with
 |.agg l=>.agg (zn7 l off new)
 | _=>match new with
  |[d]=>d
  |l=>.agg l
@[irreducible] def setN(l:List D)(i:Nat)(d:D):List D:=l.set i d
def zn4(hp:Nat->Option Blk)(n:Nat)(d:D):D->Option (Bool×Nat×Blk)
 |.ptr id off=>match hp id with
  |some (.box cs)=>some (Nat.beq d.cells.length n&&Nat.ble (off+n) cs.length&&d.cells.all oneD,id,.box (zn7 cs off d.cells))
  | _=>none
 |.eptr id s i off=>match hp id with
  |some (.arr e s' p items)=>some (Nat.beq d.cells.length n&&Nat.beq s' s&&Nat.blt i items.length&&Nat.ble (off+n) (nth items i).cells.length&&d.cells.all oneD,id,.arr e s' (p&&(D.idsL d.cells).isEmpty) (setN items i (ya1c (nth items i) off d.cells)))
  | _=>none
 | _=>none
def ub(b:UInt8):D:=.int .u8 (b.toNat:Int)
def srcD(hp:Nat->Option Blk)(esz:Nat):D->Option (List D×Bool×Bool)
 |.imm s' l c=>some (mkZL (c/8) l,true,(Nat.beq s' esz||l.isEmpty)&&Nat.blt (c/8) 3)
 |.ref id s' off len _=>match hp id with
  |some (.arr _ s'' p items)=>some ((items.drop off).take len,p,Nat.beq s' esz&&Nat.beq s'' esz&&Nat.ble (off+len) items.length)
  | _=>none
 |.str l=>some (l.map ub,true,Nat.beq esz 1)
 | _=>none
def zat(hp:Nat->Option Blk)(nid el esz eby:Nat)(s:D)(xs:List D)(px vx:Bool):Option Out:=
 match s with
 |.imm _ [] c=>match xs with
  |[]=>some ⟨.imm esz [] c,vx,[],(0,0),[]⟩
  | _::_=>some ⟨.ref nid esz 0 xs.length none,vx&&(Nat.ble (c%8) 1||Nat.beq (c%8) 3)&&decide (xs.length*eby<=140737488355328),[(nid,some (.arr el esz px xs))],(nid,nid+1),[]⟩
 |.ref id s' off len oc=>match hp id with
  |some (.arr e s'' p items)=>match oc with
   |none=>some ⟨.ref nid esz 0 (len+xs.length) none,vx&&Nat.beq e el&&Nat.beq s' esz&&Nat.beq s'' esz&&Nat.beq off 0&&Nat.beq len items.length&&decide ((items.length+xs.length)*eby<=140737488355328),
     [(nid,some (.arr el esz (p&&px) (items++xs))),(id,none)],(nid,nid+1),[]⟩
   |some c=>bif !capK c then some ⟨.ref nid esz 0 (len+xs.length) (some c),vx&&Nat.beq e el&&Nat.beq s' esz&&Nat.beq s'' esz&&Nat.beq off 0&&Nat.beq len items.length&&decide ((items.length+xs.length)*eby<=140737488355328),
     [(nid,some (.arr el esz (p&&px) (items++xs))),(id,none)],(nid,nid+1),[]⟩
     else bif Nat.blt c (len+xs.length) then
      some ⟨.ref nid esz 0 (len+xs.length) none,vx&&Nat.beq e el&&Nat.beq s' esz&&Nat.beq s'' esz&&Nat.ble (off+len) items.length&&decide ((len+xs.length)*eby<=140737488355328),
       [(nid,some (.arr el esz (p&&px) ((items.drop off).take len++xs)))],(nid,nid+1),[]⟩
     else match xs with
      |[]=>some ⟨.ref id s' off len oc,vx,[],(0,0),[]⟩
      | _::_=>some ⟨.ref nid esz 0 (len+xs.length) oc,vx&&Nat.beq e el&&Nat.beq s' esz&&Nat.beq s'' esz&&Nat.beq off 0&&Nat.beq len items.length,
       [(nid,some (.arr el esz (p&&px) (items++xs))),(id,none)],(nid,nid+1),[]⟩
  | _=>none
 | _=>none
def zgn(len:Int)(lo hi:Option D):Option (Int×Int×Bool):=
 match lo,hi with
 |none,none=>some (0,len,true)
 |some (.int _ a),none=>some (a,len,decide (0<=a)&&decide (a<=len))
 |none,some (.int _ b)=>some (0,b,decide (0<=b)&&decide (b<=len))
 |some (.int _ a),some (.int _ b)=>some (a,b,decide (0<=a)&&decide (a<=b)&&decide (b<=len))
 | _,_=>none
def capS:Option Nat->Nat->Option Nat
 |some c,a=>some (bif capK c then c-a else c)
 |none,_=>none
def zu8(hp:Nat->Option Blk)(id s off:Nat)(oc:Option Nat)(lo hi:Option D):Bool:=
 match oc with
 |some c=>capK c&&match zgn c lo hi with|some (_,_,v)=>v|none=>false
 |none=>match hp id with
  |some (.arr _ s' _ items)=>Nat.beq s' s&&!(Nat.beq s 0)&&Nat.ble off items.length&&(match zgn ((items.length-off:Nat):Int) lo hi with|some (_,_,v)=>v|none=>false)
  | _=>false
def zjr(hp:Nat->Option Blk):D->Bool
 |.ref id s off _ none=>match hp id with
  |some (.arr _ s' _ items)=>Nat.beq s' s&&!(Nat.beq s 0)&&Nat.blt off items.length
  | _=>false
 |.ref _ _ _ _ (some c)=>Nat.blt 0 c&&capK c
 | _=>false
def zho(hp:Nat->Option Blk)(esz:Nat)(s:D)(xs:List D)(px vx:Bool):Option Out:=
 match s with
 |.ref id s' off len none=>match hp id with
  |some (.arr e s'' p items)=>bif Nat.beq off 0&&Nat.beq len items.length then none else
    some ⟨.ref id s' off (len+xs.length) none,vx&&Nat.beq s' esz&&Nat.beq s'' esz&&Nat.ble (off+len+xs.length) items.length,
     [(id,some (.arr e s'' (p&&px) (items.take (off+len)++xs++items.drop (off+len+xs.length))))],(0,0),[]⟩
  | _=>none
 |.ref id s' off len (some c)=>match hp id with
  |some (.arr e s'' p items)=>bif capK c&&Nat.blt (off+len) items.length&&Nat.ble (len+xs.length) c then
    some ⟨.ref id s' off (len+xs.length) (some c),vx&&Nat.beq s' esz&&Nat.beq s'' esz&&Nat.ble (off+len+xs.length) items.length,
     [(id,some (.arr e s'' (p&&px) (items.take (off+len)++xs++items.drop (off+len+xs.length))))],(0,0),[]⟩ else none
  | _=>none
 | _=>none
def zdi(ti:TI):D:=bif ti.eagg then .agg ti.ezero else match ti.ezero with
 |d::_=>d
 |[]=>.undef
def zia(hp:Nat->Option Blk)(nid:Nat)(ti:TI)(s x:D):Option Out:=
 match s,x with
 |.ref id s' off len (some c),.int _ m=>match hp id with
  |some (.arr e s'' p items)=>some ⟨.ref nid ti.esz 0 (len+m.toNat) none,Nat.beq e ti.el&&Nat.beq s' ti.esz&&Nat.beq s'' ti.esz&&Nat.ble (off+len) items.length&&decide (0<m)&&capK c&&Nat.blt c (len+m.toNat)&&decide ((len+m.toNat)*ti.eby<=140737488355328),
    [(nid,some (.arr ti.el ti.esz p ((items.drop off).take len++List.replicate m.toNat (zdi ti))))],(nid,nid+1),[]⟩
  | _=>none
 |.imm _ [] c,.int _ m=>some ⟨.ref nid ti.esz 0 m.toNat none,(Nat.ble (c%8) 1||Nat.beq (c%8) 3)&&decide (0<m)&&decide (m.toNat*ti.eby<=140737488355328),[(nid,some (.arr ti.el ti.esz true (List.replicate m.toNat (zdi ti))))],(nid,nid+1),[]⟩
 | _,_=>none
def opdO(g:Bool)(rd:Nat->D):Option Operand->Option D×Bool
 |none=>(none,true)
 |some x=>match opd g rd x with
  |(d,p)=>(some d,p)
def opds(g:Bool)(rd:Nat->D):List Operand->List D×Bool
 |[]=>([],true)
 |x::r=>match opd g rd x,opds g rd r with
  |(d,p),(ds,q)=>(d::ds,p&&q)
def zo8:Nat->Nat->List (Nat×Operand)->Bool
 |k,n,[]=>Nat.beq k n
 |k,n,(i,_)::r=>Nat.beq i k&&zo8 (k+1) n r
def zmu:List D->Option (List UInt8)
 |[]=>some []
 |.int .u8 n::r=>match zmu r with
  |some l=>some (UInt8.ofNat n.toNat::l)
  |none=>none
 | _=>none
def zos:D->D->Option Bool
 |.int k a,.int k' b=>bif decide (k=k') then some (a==b) else none
 |.str a,.str b=>some (a==b)
 |.agg l,.agg l'=>zgc l l l'
 | _,_=>none
def ztb(k:D):List (D×D)->Option (Option D)
 |[]=>some none
 |(x,y)::r=>match zos k x with
  |some true=>some (some y)
  |some false=>ztb k r
  |none=>none
def delD(k:D):List (D×D)->Option (List (D×D))
 |[]=>some []
 |(x,y)::r=>match zos k x with
  |some true=>some r
  |some false=>match delD k r with
   |some l=>some ((x,y)::l)
   |none=>none
  |none=>none
def updD(k v:D):List (D×D)->Option (List (D×D))
 |[]=>some [(k,v)]
 |(x,y)::r=>match zos k x with
  |some true=>some ((k,v)::r)
  |some false=>match updD k v r with
   |some l=>some ((x,y)::l)
   |none=>none
  |none=>none
def keyD(ti:TI):D->Bool
 |.int _ _=>ti.kind==6
 |.str _=>ti.kind==5
 |.agg l=>ti.eqs&&(zgc ti.zero l l).isSome
 | _=>false
def zld(cap:Int)(lo hi mx:Option D):Option (Int×Int×Int×Bool):=
 match hi,mx with
 |some (.int _ b),some (.int _ m)=>match lo with
  |none=>some (0,b,m,decide (0<=b)&&decide (b<=m)&&decide (m<=cap))
  |some (.int _ a)=>some (a,b,m,decide (0<=a)&&decide (a<=b)&&decide (b<=m)&&decide (m<=cap))
  | _=>none
 | _,_=>none
def aop(tab:Nat->TI)(own:Bool)(o:Op)(nid:Nat)(g:Bool)(rd:Nat->D)(hp:Nat->Option Blk):Option Out:=
 match o with
 |.move x|.assign x=>match opd g rd x with
  |(d,p)=>some {d,vc:=p}
 |.pick c a b=>match opd g rd c with
  |(.bool b0,p)=>match opd (g&&b0) rd a,opd (g&&!b0) rd b with
   |(da,pa),(db,pb)=>match zua b0 da db with
    |some d=>some {d,vc:=p&&pa&&pb}
    |none=>none
  | _=>none
 |.binOp op t x y _=>match opd g rd x,opd g rd y with
  |(.agg l,px),(.agg l',py)=>match zgc (tab t).zero l l',op with
   |some r,.eql=>some {d:=.bool r,vc:=px&&py&&(tab t).eqs}
   |some r,.neq=>some {d:=.bool !r,vc:=px&&py&&(tab t).eqs}
   | _,_=>none
  |(dx,px),(dy,py)=>match bin op dx dy with
   |some (d,p)=>some {d,vc:=px&&py&&(p||zjr hp dx)&&binT (tab t) (cstO x y) dx}
   |none=>none
 |.unOp op _ x=>match opd g rd x with
  |(.bool b,p)=>match op with
   |.not=>some {d:=.bool !b,vc:=p}
   | _=>none
  |(.int k n,p)=>match op with
   |.neg=>some {d:=.int k (wr k (0-n)),vc:=p}
   | _=>none
  | _=>none
 |.convert t' t x=>match opd g rd x with
  |(.int _ n,p)=>match(tab t).ik with
   |some k=>some {d:=.int k (wr k n),vc:=p&&(tab t).kind==6&&!((tab t').kind==0)}
   |none=>none
  |(.str l,p)=>bif (tab t).kind==5 then some {d:=.str l,vc:=p&&!((tab t').kind==0)}
   else some {d:=.imm 1 (l.map ub) 10,vc:=p&&!((tab t').kind==0)&&(tab t).kind==3&&(tab (tab t).el).ik==some .u8&&(tab (tab t).el).kind==6}
  |(d,p)=>match srcD hp 1 d with
   |some (xs,_,q)=>match zmu xs with
    |some l=>some {d:=.str l,vc:=p&&q&&(tab t).kind==5&&(tab t').kind==3&&(tab (tab t').el).ik==some .u8&&(tab (tab t').el).kind==6}
    |none=>none
   |none=>none
 |.alloc t=>some {d:=.ptr nid 0,vc:=!((tab t).kind==0),eff:=[(nid,some (.box (tab t).zero))],nw:=(nid,nid+1)}
 |.box _ x=>match opd g rd x with
  |(d,p)=>some {d:=.ptr nid 0,vc:=p&&d.cells.all oneD&&!d.cells.isEmpty,eff:=[(nid,some (.box d.cells))],nw:=(nid,nid+1)}
 |.build t ps=>match zo5 g rd ps.toList with
  |(ds,p)=>match zqp (tab t).offs (tab t).zero ds with
   |some (c,q)=>some {d:=.agg c,vc:=p&&q&&((tab t).kind==2||(tab t).kind==4)}
   |none=>none
 |.buildSlice t n ps=>match opds g rd (ps.toList.map (·.2)) with
  |(ds,p)=>bif own&&!ds.isEmpty then some {d:=.ref nid (tab t).esz 0 ds.length (some ds.length),vc:=p&&(tab t).kind==3&&zo8 0 n ps.toList&&decide (n*(tab t).esz<=16777216)&&(ds.all fun d=>Nat.beq d.cells.length (tab t).esz&&d.cells.all oneD),eff:=[(nid,some (.arr (tab t).el (tab t).esz (D.idsL ds).isEmpty ds))],nw:=(nid,nid+1)}
   else some {d:=.imm (tab t).esz (unfL ds) (bif okML new1 ds then 9 else 1),vc:=p&&(tab t).kind==3&&zo8 0 n ps.toList&&decide (n*(tab t).esz<=16777216)&&(D.idsL ds).isEmpty&&(ds.all fun d=>Nat.beq d.cells.length (tab t).esz&&d.cells.all oneD)&&okML low3 ds}
 |.load t x=>match opd g rd x with
  |(d,p)=>match zql hp ((tab t).kind==2) (tab t).size d with
   |some (r,q)=>some {d:=r,vc:=p&&q&&(!((tab t).kind==0)&&!((tab t).kind==4))}
   |none=>none
 |.store t x y=>match opd g rd x,opd g rd y with
  |(dx,p),(dy,q)=>match zn4 hp (tab t).size dy dx with
   |some (r,id,blk)=>some {d:=.undef,vc:=p&&q&&r&&!((tab t).kind==0)&&!((tab t).size==0),eff:=[(id,some blk)]}
   |none=>none
 |.nilCheck x=>match opd g rd x with
  |(.ptr id off,p)=>some {d:=.ptr id off,vc:=p}
  |(.eptr id s i off,p)=>some {d:=.eptr id s i off,vc:=p}
  |(.iptr m l,p)=>some {d:=.iptr m l,vc:=p}
  | _=>none
 |.fieldAddr t x f=>match opd g rd x,(tab t).offs[f]? with
  |(.ptr id off,p),some (o,_,_)=>some {d:=.ptr id (off+o),vc:=p&&(tab t).kind==2}
  |(.eptr id s i off,p),some (o,_,_)=>some {d:=.eptr id s i (off+o),vc:=p&&(tab t).kind==2}
  |(.iptr m l,p),some (o,_,_)=>some {d:=.iptr m (l.drop o),vc:=p&&Nat.ble o l.length&&(tab t).kind==2}
  | _,_=>none
 |.field t x f=>match opd g rd x,(tab t).offs[f]? with
  |(.agg l,p),some (o,n,agg)=>match part agg n (l.drop o) with
   |some d=>some {d,vc:=p&&Nat.ble (o+n) l.length&&(tab t).kind==2}
   |none=>none
  | _,_=>none
 |.indexAddr t x i=>match opd g rd x,opd g rd i with
  |(.imm s l c,p),(.int _ n,q)=>some {d:=.iptr (c/8) (nth l n.toNat).cells,vc:=p&&q&&decide (0<=n)&&decide (n<l.length)&&Nat.beq s (tab t).esz&&(tab t).kind==3&&Nat.blt (c/8) 3}
  |(.ref id s off len _,p),(.int _ n,q)=>some {d:=.eptr id s (off+n.toNat) 0,vc:=p&&q&&decide (0<=n)&&decide (n<len)&&Nat.beq s (tab t).esz&&(tab t).kind==3}
  |(.ptr id off,p),(.int _ n,q)=>some {d:=.ptr id (off+n.toNat),vc:=p&&q&&decide (0<=n)&&decide (n<(tab t).size)&&(tab t).kind==4}
  | _,_=>none
 |.index t x i=>match opd g rd x,opd g rd i with
  |(.str l,p),(.int _ n,q)=>some {d:=.int .u8 ((l.getD n.toNat 0).toNat:Int),vc:=p&&q&&decide (0<=n)&&decide (n<l.length)&&(tab t).kind==5}
  | _,_=>none
 |.slice t x lo hi none=>match opd g rd x,opdO g rd lo,opdO g rd hi with
  |(.imm s l c,p),(lo,q),(hi,r)=>match zgn l.length lo hi with
   |some (a,b,v)=>some {d:=.imm (tab t).esz ((l.take b.toNat).drop a.toNat) (bif c%8==0 then c else c-c%8+4),vc:=p&&q&&r&&v&&(Nat.beq s (tab t).esz||l.isEmpty)&&(tab t).kind==3}
   |none=>none
  |(.ref id s off len oc,p),(lo,q),(hi,r)=>match zgn len lo hi with
   |some (a,b,v)=>some {d:=.ref id s (off+a.toNat) (b-a).toNat (capS oc a.toNat),vc:=p&&q&&r&&(v||(hi.isSome&&zu8 hp id s off oc lo hi))&&Nat.beq s (tab t).esz&&(tab t).kind==3}
   |none=>none
  |(.str l,p),(lo,q),(hi,r)=>match zgn l.length lo hi with
   |some (a,b,v)=>some {d:=.str ((l.take b.toNat).drop a.toNat),vc:=p&&q&&r&&v&&(tab t).kind==5}
   |none=>none
  | _,_,_=>none
 |.slice t x lo hi (some mx)=>match opd g rd x,opdO g rd lo,opdO g rd hi,opd g rd mx with
  |(.imm s l c,p),(lo,q),(hi,r),(mx,u)=>match zld l.length lo hi (some mx) with
   |some (a,b,m,v)=>some {d:=.imm (tab t).esz ((l.take b.toNat).drop a.toNat) (bif c%8==0 then c else bif m==b then(bif (c%8==1||c%8==2) then c-c%8+1 else c-c%8+3) else c-c%8+4),vc:=p&&q&&r&&u&&v&&(Nat.beq s (tab t).esz||l.isEmpty)&&(tab t).kind==3}
   |none=>none
  |(.ref id s off len oc,p),(lo,q),(hi,r),(mx,u)=>match zld (match oc with|some c=>bif capK c then c else len|none=>len) lo hi (some mx) with
   |some (a,b,m,v)=>some {d:=bif decide (a=m)&&(Nat.blt 0 len||zjr hp (.ref id s off len oc)) then .imm (tab t).esz [] 1 else .ref id s (off+a.toNat) (b-a).toNat (some (m-a).toNat),vc:=p&&q&&r&&u&&v&&Nat.beq s (tab t).esz&&(tab t).kind==3}
   |none=>none
  | _,_,_,_=>none
 |.extract x i=>match opd g rd x with
  |(.tuple l,p)=>match l[i]? with
   |some d=>some {d,vc:=p}
   |none=>none
  | _=>none
 |.makeFunc f first caps=>match f,first.toList,opds g rd caps.toList with
  |.func k,[],(ds,p)=>some {d:=.fn (.func k) ds,vc:=p}
  |.func k,[x],([],p)=>match opd g rd x with
   |(d,q)=>some {d:=.fn (.yield k) [d],vc:=p&&q}
  | _,_,_=>none
 |.makeInterface t x=>match opd g rd x with
  |(d,p)=>some {d:=.iface t d,vc:=p&&!((tab t).kind==0)&&!((tab t).kind==7)}
 |.makeSlice t l c=>match opd g rd l,opd g rd c with
  |(.int _ n,p),(.int _ m,q)=>some {d:=.ref nid (tab t).esz 0 n.toNat (some m.toNat),vc:=p&&q&&decide (0<=n)&&decide (n<=m)&&decide (m*(tab t).eby<=140737488355328)&&decide (m<=9223372036854775807)&&(tab t).kind==3&&Nat.beq (tab t).ezero.length (tab t).esz&&((tab t).eagg||Nat.beq (tab t).esz 1),eff:=[(nid,some (.arr (tab t).el (tab t).esz true (List.replicate n.toNat (zdi (tab t)))))],nw:=(nid,nid+1)}
  | _,_=>none
 |.makeMap t r=>match opdO g rd r with
  |(none,p)=>some {d:=.mref nid,vc:=p,eff:=[(nid,some (.map []))],nw:=(nid,nid+1)}
  |(some (.int _ _),p)=>some {d:=.mref nid,vc:=p&&(tab t).kind==9,eff:=[(nid,some (.map []))],nw:=(nid,nid+1)}
  | _=>none
 |.lookup t x i ok=>match opd g rd x,opd g rd i with
  |(.mref id,p),(k,q)=>match hp id with
   |some (.map es)=>match ztb k es with
    |some r=>some {d:=bif ok then .tuple [r.getD (zdi (tab t)),.bool r.isSome] else r.getD (zdi (tab t)),vc:=p&&q&&(tab t).kind==9&&keyD (tab (tab t).el) k}
    |none=>none
   | _=>none
  |(.nilmap,p),(k,q)=>some {d:=bif ok then .tuple [zdi (tab t),.bool false] else zdi (tab t),vc:=p&&q&&(tab t).kind==9&&keyD (tab (tab t).el) k}
  | _,_=>none
 |.mapUpdate t x i y|.insert t x i y=>match opd g rd x,opd g rd i,opd g rd y with
  |(.mref id,p),(k,q),(v,r)=>match hp id with
   |some (.map es)=>match updD k v es with
    |some es'=>some {d:=.undef,vc:=p&&q&&r&&(tab t).kind==9&&keyD (tab (tab t).el) k,eff:=[(id,some (.map es'))]}
    |none=>none
   | _=>none
  | _,_,_=>none
 |.call c=>match c.callee,c.args.toList,c.argTypes.toList with
  |.builtin .len,[x],[t]=>match opd g rd x with
   |(.imm _ l _,p)=>some {d:=.int .i64 l.length,vc:=p&&(tab t).kind==3}
   |(.ref _ _ _ len _,p)=>some {d:=.int .i64 len,vc:=p&&(tab t).kind==3}
   |(.str l,p)=>some {d:=.int .i64 l.length,vc:=p&&(tab t).kind==5}
   | _=>none
  |.builtin .cap,[x],[t]=>match opd g rd x with
   |(.imm _ l c,p)=>some {d:=.int .i64 l.length,vc:=p&&(tab t).kind==3&&(Nat.ble (c%8) 1||Nat.beq (c%8) 3)}
   |(.ref _ _ _ _ (some c),p)=>some {d:=.int .i64 c,vc:=p&&(tab t).kind==3&&capK c}
   | _=>none
  |.builtin .append,[s,x],[t,t']=>match opd g rd s,opd g rd x with
   |(ds,p),(dx,q)=>match srcD hp (tab t).esz dx with
    |some (xs,px,vx)=>match zho hp (tab t).esz ds xs px vx with
     |some out=>some {out with vc:=p&&q&&out.vc&&(tab t).kind==3&&((tab t').kind==3||(tab t').kind==5)}
     |none=>match zat hp nid (tab t).el (tab t).esz (tab t).eby ds xs px vx with
      |some out=>some {out with vc:=p&&q&&out.vc&&(tab t).kind==3&&((tab t').kind==3||(tab t').kind==5)}
      |none=>none
    |none=>match zia hp nid (tab t) ds dx with
     |some out=>some {out with vc:=p&&q&&out.vc&&(tab t).kind==3&&(tab t').kind==6}
     |none=>none
  |.builtin .copy,[s,x],[t,_]=>match opd g rd s,opd g rd x with
   |(.ref id s' off len _,p),(.ref id2 s2' off2 len2 _,q)=>match hp id,hp id2 with
    |some (.arr e s'' pu items),some (.arr _ s2 px items2)=>some {d:=.int .i64 (Nat.min len2 len),vc:=p&&q&&Nat.beq s' (tab t).esz&&Nat.beq s'' (tab t).esz&&Nat.beq s2' (tab t).esz&&Nat.beq s2 (tab t).esz&&Nat.ble off items.length&&Nat.ble (off2+Nat.min len2 len) items2.length&&(tab t).kind==3,eff:=[(id,some (.arr e s'' (pu&&px) (items.take off++(items2.drop off2).take (Nat.min len2 len)++items.drop (off+Nat.min len2 len))))]}
    | _,_=>none
   |(.ref id s' off len _,p),(dx,q)=>match hp id,srcD hp (tab t).esz dx with
    |some (.arr e s'' pu items),some (xs,px,vx)=>some {d:=.int .i64 (Nat.min xs.length len),vc:=p&&q&&vx&&Nat.beq s' (tab t).esz&&Nat.beq s'' (tab t).esz&&Nat.ble (off+len) items.length&&(tab t).kind==3,eff:=[(id,some (.arr e s'' (pu&&px) (items.take off++xs.take len++items.drop (off+Nat.min xs.length len))))]}
    | _,_=>none
   | _,_=>none
  |.builtin .clear,[x],[t]=>match opd g rd x with
   |(.imm _ [] _,p)=>some {d:=.tuple [],vc:=p&&(tab t).kind==3}
   |(.ref id s off len _,p)=>match hp id with
    |some (.arr e s' pu items)=>some {d:=.tuple [],vc:=p&&(tab t).kind==3&&Nat.beq s (tab t).esz&&Nat.beq s' s&&Nat.ble (off+len) items.length&&Nat.beq (tab t).ezero.length (tab t).esz&&((tab t).eagg||Nat.beq (tab t).esz 1),eff:=[(id,some (.arr e s' pu (items.take off++List.replicate len (zdi (tab t))++items.drop (off+len))))]}
    | _=>none
   | _=>none
  |.builtin .max,[x,y],_=>match opd g rd x,opd g rd y with
   |(.int k a,p),(.int k' b,q)=>bif decide (k=k') then some {d:=.int k (max a b),vc:=p&&q} else none
   | _,_=>none
  |.builtin .min,[x,y],_=>match opd g rd x,opd g rd y with
   |(.int k a,p),(.int k' b,q)=>bif decide (k=k') then some {d:=.int k (min a b),vc:=p&&q} else none
   | _,_=>none
  |.builtin .delete,[x,i],[t,_]=>match opd g rd x,opd g rd i with
   |(.mref id,p),(k,q)=>match hp id with
    |some (.map es)=>match delD k es with
     |some es'=>some {d:=.tuple [],vc:=p&&q&&(tab t).kind==9&&keyD (tab (tab t).el) k,eff:=[(id,some (.map es'))]}
     |none=>none
    | _=>none
   | _,_=>none
  | _,_,_=>none
 | _=>none
end Go.Tm
