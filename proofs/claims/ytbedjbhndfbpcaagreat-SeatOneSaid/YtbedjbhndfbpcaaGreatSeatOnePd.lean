/- Texts of the proof. -/
import Derived.Deep.AppendSrc
import Derived.Test.YtbedjbhndfbpcaaGreatSeatOnePc
set_option linter.unusedVariables false
set_option linter.unusedSimpArgs false
namespace Go.Tm
open Go.RowKit Go.WideShapes
theorem zqo{C C':Cx}(h:C.Le C')(hC:C.rf=true)(b b':Bool)(hb:b=true->b'=true):({C with rf:=b}:Cx).Le {C' with rf:=b'}:=
 ⟨h.blk,h.shp,h.ff,hb,fun _=>h.sg hC⟩
theorem zlw{C C':Cx}(h:C.Le C'):∀(es:List (D×D)) (ens:List MapEntry),zey C es ens->zey C' es ens
 |[],ens,hh=>by simpa only[zey] using hh
 |x::xs,ens,hh=>by
  simp only[zey] at hh ⊢
  obtain⟨e,es',rfl,⟨h1,h2⟩,h3⟩:=hh
  exact⟨e,es',rfl,⟨zfv h _ _ h1,zfv h _ _ h2⟩,zlw h xs es' h3⟩
mutual
theorem zpe{C:Cx}:∀(d:D) (v:Value),d.ids=[]->rep C d v->rep C.noref d v
 |.bool b,v,_,h=>by simpa only[rep] using h
 |.int k n,v,_,h=>by simpa only[rep] using h
 |.str l,v,_,h=>by simpa only[rep] using h
 |.agg l,v,hi,h=>by
  simp only[rep] at h ⊢
  obtain⟨cs,rfl,h⟩:=h
  exact⟨cs,rfl,zka l cs (by simpa only[D.ids] using hi) h⟩
 |.imm s l c,v,_,h=>by simp only[rep] at h ⊢;exact h
 |.ref id s off len oc,v,hi,_=>by simp[D.ids] at hi
 |.ptr id off,v,hi,_=>by simp[D.ids] at hi
 |.eptr id s i off,v,hi,_=>by simp[D.ids] at hi
 |.iptr m l,v,_,h=>by simp only[rep] at h ⊢;exact h
 |.nilptr,v,_,h=>by simpa only[rep] using h
 |.tuple l,v,hi,h=>by
  simp only[rep] at h ⊢
  obtain⟨cs,rfl,h⟩:=h
  exact⟨cs,rfl,zka l cs (by simpa only[D.ids] using hi) h⟩
 |.fn f l,v,hi,h=>by
  simp only[rep] at h ⊢
  obtain⟨cs,rfl,h⟩:=h
  exact⟨cs,rfl,zka l cs (by simpa only[D.ids] using hi) h⟩
 |.nilfn,v,_,h=>by simpa only[rep] using h
 |.iface t d,v,hi,h=>by
  simp only[rep] at h ⊢
  obtain⟨x,rfl,h⟩:=h
  exact⟨x,rfl,zpe d x (by simpa only[D.ids] using hi) h⟩
 |.nilIface,v,_,h=>by simpa only[rep] using h
 |.mref id,v,hi,_=>by simp[D.ids] at hi
 |.nilmap,v,_,h=>by simpa only[rep] using h
 |.sc,v,_,h=>by simpa only[rep] using h
 |.when c d,v,hi,h=>by
  simp only[rep] at h ⊢
  exact⟨fun hc=>zpe d v (by simpa only[D.ids] using hi) (h.1 hc),h.2⟩
 |.undef,v,_,_=>by simp only[rep]
theorem zka{C:Cx}:∀(l:List D) (vs:List Value),D.idsL l=[]->reps C l vs->reps C.noref l vs
 |[],vs,_,h=>by simpa only[reps] using h
 |d::ds,vs,hi,h=>by
  simp only[reps] at h ⊢
  simp only[D.idsL,List.append_eq_nil_iff] at hi
  obtain⟨v,vs',rfl,h1,h2⟩:=h
  exact⟨v,vs',rfl,zpe d v hi.1 h1,zka ds vs' hi.2 h2⟩
end
theorem zmi{C C':Cx}{id:Nat}{blk:Blk}(hle:C.Le C')(hC:C.rf=true)(hσ:C'.σ id=C.σ id)
  (hb:∀b o,C.σ id=some (b,o)->C'.w.heap[b]?=C.w.heap[b]?) (h:holds C id blk):holds C' id blk:=by
 cases blk with
 |box cells=>
  obtain⟨b,cs,T,h1,h2,h3,h4⟩:=h
  exact⟨b,cs,T,by rw[hσ,h1],by rw[hb b 0 h1,h2],zhr hle _ _ h3,h4⟩
 |arr e s p items=>
  rcases h with⟨h1,h2⟩|⟨b,cs,h1,h2,h3,h4⟩
  exact .inl ⟨h1,by rw[hσ,h2]⟩
  exact .inr ⟨b,cs,by rw[hσ,h1],by rw[hb b 0 h1,h2],h3,zh2 (zqo hle hC _ _ (fun x=>x)) _ _ _ _ (hb b 0 h1) h4⟩
 |map es=>
  obtain⟨b,ens,clock,h1,h2,h3⟩:=h
  exact⟨b,ens,clock,by rw[hσ,h1],by rw[hb b 0 h1,h2],zlw hle _ _ h3⟩
section
variable {fr : Nat} {w w' : World} {g g' : Gh} {hp hp' : Nat -> Option Blk} {nu nu' : Nat -> Bool}
def zty(g:Gh)(hp:Nat->Option Blk)(ch:Nat->Prop)(b:Nat):Prop:=∃id o,ch id/\hp id≠none/\g.σ id=some (b,o)
theorem Mem.le{ch:Nat->Prop}(hK:Keep (zty g hp ch) w w')(hz:g'.Z=g.Z)(hzn:g'.zn=g.zn)(hs:∀id,g.σ id≠none->g'.σ id=g.σ id)
  (hown:∀b,ownB g' hp' b->w.heap.size<=b\/ownB g hp b):Cx.Le (cx w g hp) (cx w' g' hp'):=by
 refine⟨fun m _ Z' hZ'=>⟨Z',?_,fun b hM hZ hb=>⟨?_,hZ,?_⟩⟩,fun b hb=>hK.shp b hb,id,id,fun _=>hs⟩
 simp only[Cx.zone,cx,hz,hzn] at hZ' ⊢
 exact hZ'
 intro hM'
 rcases hown b hM' with h|h
 have hb:b<w.heap.size:=hb
 omega
 exact hM h
 refine .of_eq (hK.block b hb ?_) hb
 rintro⟨id,o,_,h1,h2⟩
 exact hM ⟨id,o,h1,h2⟩
theorem Mem.flK(h:Mem fr w g hp nu){ch:Nat->Prop}(hK:Keep (zty g hp ch) w w'):Fl fr w':=
 h.fl.of hK.size fun h0 h1=>hK.block 0 h1 (by
  rintro⟨id,o,_,h2,h3⟩
  have:=(h.zs.zo 0 ⟨id,o,h2,h3⟩).1
  omega)
theorem Mem.change(h:Mem fr w g hp nu){ch:Nat->Prop}(hK:Keep (zty g hp ch) w w')(hz:g'.Z=g.Z)(hzn:g'.zn=g.zn)(hs:∀id,g.σ id≠none\/hp id≠none/\¬ch id->g'.σ id=g.σ id)
  (hown:∀b,ownB g' hp' b->w.heap.size<=b\/ownB g hp b)
  (hhd:∀id blk,hp' id=some blk->(¬ch id/\hp id=some blk)\/holds (cx w' g' hp') id blk)
  (hinj:∀id id' b o o',hp' id≠none->hp' id'≠none->g'.σ id=some (b,o)->g'.σ id'=some (b,o')->id=id')
  (hnw:∀id,nu' id=true->g'.σ id=none/\hp' id=none):Mem fr w' g' hp' nu':=by
 have hle:Cx.Le (cx w g hp) (cx w' g' hp'):=Mem.le hK hz hzn (fun id h=>hs id (.inl h)) hown
 refine⟨fun id blk hb=>?_,hinj,hnw,?_,h.flK hK⟩
 rcases hhd id blk hb with⟨h1,h2⟩|h3
 refine zmi (C:=cx w g hp) (C':=cx w' g' hp') hle rfl (hs id (.inr ⟨by rw[h2];simp,h1⟩)) ?_ (h.hd id blk h2)
 intro b o hσ
 refine hK.block b (zw1 (C:=cx w g hp) (h.hd id blk h2) hσ).1 ?_
 rintro⟨id2,o2,g1,g2,g3⟩
 have:=h.inj id id2 b o o2 (by rw[h2];simp) g2 hσ g3
 subst this
 exact h1 g1
 exact h3
 refine⟨fun b hb=>?_,?_,?_,?_,fun b hM=>?_⟩
 rw[hz];exact h.zs.z0 b (zao hK.size hb)
 obtain⟨Z1,h1,h2,h3⟩:=h.zs.z1
 rw[hz,hzn]
 exact⟨Z1,h1,h2,fun b hb=>h3 b (zao hK.size hb)⟩
 rw[hz,hzn];exact h.zs.z2
 rw[hz,hzn]
 intro m Zm hm hZ b hb
 obtain⟨h1,h2,h3,h4,h5⟩:=h.zs.zr m Zm hm hZ b hb
 refine⟨Nat.lt_of_lt_of_le h1 hK.size,h2,h3,?_,h5⟩
 intro hM
 rcases hown b hM with h|h
 omega
 exact h4 h
 rcases hown b hM with h1|h1
 obtain⟨Z1,k1,k2,k3⟩:=h.zs.z1
 rw[hz,hzn]
 exact⟨zao h.fl.le h1,h.zs.z0 b h1,Z1,k1,k3 b h1⟩
 rw[hz,hzn];exact h.zs.zo b h1
end
def setσ(g:Gh)(n:Nat)(x:Option (Nat×Nat)):Gh:={g with σ:=fun i=>if i=n then x else g.σ i}
def kill:Option Nat->List (Nat×Option Blk)
 |none=>[]
 |some k=>[(k,none)]
theorem zbq{a b:Nat}(h:a≠b):Nat.beq a b=false:=by
 cases hb:Nat.beq a b
 rfl
 exact absurd (nb hb) h
theorem ya0u(nu:Nat->Bool)(n id:Nat):effN nu (n,n+1) id=true↔nu id=true/\id≠n:=by
 unfold effN
 simp
 intro _
 omega
theorem zte(nu:Nat->Bool):effN nu (0,0)=nu:=by
 funext id
 unfold effN
 simp
theorem ya0v(hp:Nat->Option Blk):effH hp []=hp:=by
 funext id;simp[effH,getL]
theorem zml(F:FrS):F.eff [] (0,0)=F:=by
 unfold FrS.eff
 rw[ya0v,zte]
section
variable {E : En} {n : Nat} {F : FrS} {a : Act} {w w' : World} {g g' : Gh} (hR : Rel E n F a w g)
include hR
theorem Rel.change{hp':Nat->Option Blk}{nu':Nat->Bool}{ch:Nat->Prop}(hK:Keep (zty g F.hp ch) w w')(hz:g'.Z=g.Z)(hzn:g'.zn=g.zn)(hs:∀id,g.σ id≠none\/F.hp id≠none/\¬ch id->g'.σ id=g.σ id)
  (hown:∀b,ownB g' hp' b->w.heap.size<=b\/ownB g F.hp b)
  (hhd:∀id blk,hp' id=some blk->(¬ch id/\F.hp id=some blk)\/holds (cx w' g' hp') id blk)
  (hinj:∀id id' b o o',hp' id≠none->hp' id'≠none->g'.σ id=some (b,o)->g'.σ id'=some (b,o')->id=id')
  (hnw:∀id,nu' id=true->g'.σ id=none/\hp' id=none) (hs2:∀id,F.nu id=false->g'.σ id=g.σ id) (hn2:∀id,nu' id=true->F.nu id=true):Rel E n ⟨F.rd,hp',nu'⟩ a w' g':=by
 have hle:Cx.Le (cx w g F.hp) (cx w' g' hp'):=Mem.le hK hz hzn (fun id h=>hs id (.inl h)) hown
 refine⟨hR.sz,hR.df,fun t=>zfv hle _ _ (hR.rd t),hR.mem.change hK hz hzn hs hown hhd hinj hnw,?_,?_,⟨hz.trans hR.gz.1,hzn.trans hR.gz.2⟩,?_,fun id h=>hR.nu id (hn2 id h)⟩
 intro id b o h1 h2
 rcases hown b ⟨id,o,h1,h2⟩ with h|⟨id',o',h3,h4⟩
 exact .inl (zao hR.keep.size h)
 exact hR.base id' b o' h3 h4
 refine hR.keep.trans (hK.mono ?_)
 rintro b hb ⟨id,o,_,h1,h2⟩
 rcases hR.base id b o h1 h2 with h|h
 exact .inr h
 exact .inl h
 intro id h
 rw[hs2 id,hR.gs id h]
 cases hb:F.nu id
 rfl
 rw[hR.nu id hb] at h;cases h
theorem Rel.made{m:Nat}{blk:Blk}{loc:Option (Nat×Nat)}{kl:Option Nat}(hn:F.nu m=true)(hK:Keep (zty g F.hp fun k=>kl=some k) w w')
  (hloc:∀b o,loc=some (b,o)->w.heap.size<=b\/zty g F.hp (fun k=>kl=some k) b)
  (hblk:∀C,C=cx w' (setσ g m loc) (effH F.hp ((m,some blk)::kill kl))->Cx.Le (cx w g F.hp) C->C.rf=true->C.σ m=loc->holds C m blk):
  Rel E n (F.eff ((m,some blk)::kill kl) (m,m+1)) a w' (setσ g m loc)/\Cx.Le (cx w g F.hp) (cx w' (setσ g m loc) (effH F.hp ((m,some blk)::kill kl))):=by
 obtain⟨n1,n2⟩:=hR.mem.nw m hn
 have hp0:effH F.hp ((m,some blk)::kill kl) m=some blk:=by simp[effH,getL]
 have hp1:∀id,id≠m->effH F.hp ((m,some blk)::kill kl) id≠none->F.hp id≠none/\kl≠some id/\effH F.hp ((m,some blk)::kill kl) id=F.hp id:=by
  intro id hid h
  have hb:Nat.beq m id=false:=zbq (fun e=>hid e.symm)
  cases kl with
  |none=>simp[effH,getL,hb,kill] at h ⊢;exact h
  |some k=>
   by_cases e:k=id
   subst e;simp[effH,getL,hb,kill] at h
   have hb':Nat.beq k id=false:=zbq e
   simp[effH,getL,hb,hb',kill] at h ⊢
   exact⟨h,e⟩
 have hσ:∀id,id≠m->(setσ g m loc).σ id=g.σ id:=by
  intro id hid
  simp[setσ,hid]
 have hσ0:(setσ g m loc).σ m=loc:=by simp[setσ]
 have hown:∀b,ownB (setσ g m loc) (effH F.hp ((m,some blk)::kill kl)) b->w.heap.size<=b\/ownB g F.hp b:=by
  rintro b ⟨id,o,h1,h2⟩
  by_cases e:id=m
  subst e
  rw[hσ0] at h2
  rcases hloc b o h2 with h|⟨k,o',_,h3,h4⟩
  exact .inl h
  exact .inr ⟨k,o',h3,h4⟩
  rw[hσ id e] at h2
  exact .inr ⟨id,o,(hp1 id e h1).1,h2⟩
 have hs:∀id,g.σ id≠none\/F.hp id≠none/\¬kl=some id->(setσ g m loc).σ id=g.σ id:=by
  intro id h
  refine hσ id ?_
  rintro rfl
  rcases h with h|h
  exact h n1
  exact h.1 n2
 have hle:Cx.Le (cx w g F.hp) (cx w' (setσ g m loc) (effH F.hp ((m,some blk)::kill kl))):=Mem.le (g':=setσ g m loc) hK rfl rfl (fun id h=>hs id (.inl h)) hown
 have hlt:∀id b o,F.hp id≠none->g.σ id=some (b,o)->b<w.heap.size:=fun id b o h1 h2=>hR.mem.own_lt ⟨id,o,h1,h2⟩
 refine⟨Rel.change hR (ch:=fun k=>kl=some k) hK rfl rfl hs hown ?_ ?_ ?_ (fun id h=>hσ id (by rintro rfl;rw[hn] at h;cases h)) (fun id h=>((ya0u _ _ _).1 h).1),hle⟩
 intro id blk' hb
 by_cases e:id=m
 subst e
 rw[hp0] at hb
 cases hb
 exact .inr (hblk _ rfl hle rfl hσ0)
 obtain⟨h1,h2,h3⟩:=hp1 id e (by rw[hb];simp)
 rw[h3] at hb
 exact .inl ⟨h2,hb⟩
 intro id id' b o o' h1 h2 h3 h4
 by_cases e:id=m
 by_cases e':id'=m
 rw[e,e']
 exfalso
 subst e
 rw[hσ0] at h3
 rw[hσ id' e'] at h4
 obtain⟨g1,g2,_⟩:=hp1 id' e' h2
 have:=hlt id' b o' g1 h4
 rcases hloc b o h3 with h|⟨k,o2,hk,h5,h6⟩
 omega
 have:=hR.mem.inj id' k b o' o2 g1 h5 h4 h6
 subst this
 exact g2 hk
 by_cases e':id'=m
 exfalso
 subst e'
 rw[hσ0] at h4
 rw[hσ id e] at h3
 obtain⟨g1,g2,_⟩:=hp1 id e h1
 have:=hlt id b o g1 h3
 rcases hloc b o' h4 with h|⟨k,o2,hk,h5,h6⟩
 omega
 have:=hR.mem.inj id k b o o2 g1 h5 h3 h6
 subst this
 exact g2 hk
 rw[hσ id e] at h3
 rw[hσ id' e'] at h4
 exact hR.mem.inj id id' b o o' (hp1 id e h1).1 (hp1 id' e' h2).1 h3 h4
 intro id h
 obtain⟨h1,h2⟩:=(ya0u _ _ _).1 h
 obtain⟨h3,h4⟩:=hR.mem.nw id h1
 refine⟨by rw[hσ id h2];exact h3,?_⟩
 by_cases hh:effH F.hp ((m,some blk)::kill kl) id=none
 exact hh
 exact absurd h4 (hp1 id h2 hh).1
theorem Rel.wrote{id:Nat}{blk:Blk}{b o:Nat}(hl:F.hp id≠none)(hs:g.σ id=some (b,o))(hK:Keep (fun k=>k=b) w w')
  (hblk:∀C,C=cx w' g (effH F.hp [(id,some blk)])->Cx.Le (cx w g F.hp) C->C.rf=true->C.σ id=some (b,o)->holds C id blk):Rel E n (F.eff [(id,some blk)] (0,0)) a w' g:=by
 have hp0:effH F.hp [(id,some blk)] id=some blk:=by simp[effH,getL]
 have hp1:∀x,x≠id->effH F.hp [(id,some blk)] x=F.hp x:=by
  intro x hx
  have hb:Nat.beq id x=false:=zbq (fun e=>hx e.symm)
  simp[effH,getL,hb]
 have hne:∀x,effH F.hp [(id,some blk)] x≠none->F.hp x≠none:=by
  intro x h
  by_cases e:x=id
  subst e;exact hl
  rwa [hp1 x e] at h
 have hK':Keep (zty g F.hp fun k=>k=id) w w':=hK.mono fun k _ e=>by subst e;exact⟨id,o,rfl,hl,hs⟩
 have hown:∀b,ownB g (effH F.hp [(id,some blk)]) b->w.heap.size<=b\/ownB g F.hp b:=by
  rintro b ⟨x,o',h1,h2⟩
  exact .inr ⟨x,o',hne x h1,h2⟩
 have hle:Cx.Le (cx w g F.hp) (cx w' g (effH F.hp [(id,some blk)])):=Mem.le (g':=g) hK' rfl rfl (fun _ _=>rfl) hown
 have:F.eff [(id,some blk)] (0,0)=⟨F.rd,effH F.hp [(id,some blk)],F.nu⟩:=by unfold FrS.eff;rw[zte]
 rw[this]
 refine Rel.change hR (ch:=fun k=>k=id) hK' rfl rfl (fun _ _=>rfl) hown ?_ ?_ ?_ (fun _ _=>rfl) (fun _ h=>h)
 intro x blk' hb
 by_cases e:x=id
 subst e
 rw[hp0] at hb
 cases hb
 exact .inr (hblk _ rfl hle rfl hs)
 rw[hp1 x e] at hb
 exact .inl ⟨e,hb⟩
 intro x y b o o' h1 h2 h3 h4
 exact hR.mem.inj x y b o o' (hne x h1) (hne y h2) h3 h4
 intro x h
 obtain⟨h1,h2⟩:=hR.mem.nw x h
 refine⟨h1,?_⟩
 by_cases e:x=id
 subst e;exact absurd h2 hl
 rw[hp1 x e];exact h2
theorem Rel.ext(hK:Keep (fun _=>False) w w'):Rel E n F a w' g:=by
 have:=Rel.change hR (g':=g) (hp':=F.hp) (nu':=F.nu) (ch:=fun _=>False) (hK.mono fun _ _ h=>h.elim) rfl rfl (fun _ _=>rfl) (fun b h=>.inr h) (fun id blk h=>.inl ⟨fun h=>h,h⟩) (fun _ _ _ _ _ h1 h2 h3 h4=>hR.mem.inj _ _ _ _ _ h1 h2 h3 h4) (fun id h=>hR.mem.nw id h) (fun _ _=>rfl) (fun _ h=>h)
 exact this
omit hR in
theorem Rel.ext_le(hK:Keep (fun _=>False) w w'):Cx.Le (cx w g F.hp) (cx w' g F.hp):=
 Mem.le (g':=g) (hp':=F.hp) (ch:=fun _=>False) (hK.mono fun _ _ h=>h.elim) rfl rfl (fun _ _=>rfl) (fun _ h=>.inr h)
end
theorem Keep.alloc(X:Nat->Prop)(w:World)(o:Obj):Keep X w (w.alloc o):=
 Keep.of_below ((Below.refl _ _).alloc (za4 _) o)
def ze7(P:Program)(E:En)(n:Nat)(a:Act)(o:Oper)(F':FrS)(d:D)(w:World):Prop:=
 ∃v w' g',((execOp a.eval o).run P w=.ok (.value v) w'\/(execOp a.eval o).run P w=.ok .skip w'/\v=undef)/\rep (cx w' g' F'.hp) d v/\Rel E n F' a w' g'
theorem ze7.weak{P:Program}{E:En}{n:Nat}{a:Act}{o:Oper}{F':FrS}{d d':D}{w:World}(h:ze7 P E n a o F' d w)(hd:∀v w' g',rep (cx w' g' F'.hp) d v->rep (cx w' g' F'.hp) d' v):ze7 P E n a o F' d' w:=by
 obtain⟨v,w',g',h1,h2,h3⟩:=h
 exact⟨v,w',g',h1,hd v w' g' h2,h3⟩
theorem zyj{C:Cx}{id s off len c:Nat}{oc:Option Nat}{v:Value}(h:rep C (.ref id s off len oc) v)(hk:capK c=false):rep C (.ref id s off len (some c)) v:=by
 simp only[rep] at h ⊢
 obtain⟨h0,a,cap,e,h1,h2,h3,_,h4⟩:=h
 exact⟨h0,a,cap,e,h1,h2,h3,⟨(fun c' hc hk'=>by cases hc;rw[hk] at hk';cases hk'),(fun hc=>by cases hc)⟩,h4⟩
section
variable {P : Program} {E : En} {n : Nat} {F : FrS} {a : Act} {w : World} {g : Gh} (hR : Rel E n F a w g)
include hR
theorem zal{o:Oper}{d:D}(h:zg2 P (cx w g F.hp) a o d w):ze7 P E n a o (F.eff [] (0,0)) d w:=by
 obtain⟨v,h1,h2⟩:=h
 rw[zml]
 exact⟨v,w,g,.inl h1,h2,hR⟩
theorem zuw{o:Oper}{t:TypeId}{cells:List D}{cv:Array Value}{id:Nat}(hn:F.nu id=true)(hrun:(execOp a.eval o).run P w=.ok (.value (.pointer (some ⟨w.heap.size,0,none⟩))) (w.alloc (.cells cv t)))
  (hc:reps (cx w g F.hp) cells cv.toList) (h1:cv.toList.all (·.oneCell')=true):ze7 P E n a o (F.eff [(id,some (.box cells))] (id,id+1)) (.ptr id 0) w:=by
 have hK:Keep (fun _=>False) w (w.alloc (.cells cv t)):=Keep.alloc _ _ _
 obtain⟨h2,h3⟩:=Rel.made hR (m:=id) (blk:=.box cells) (loc:=some (w.heap.size,0)) (kl:=none) hn (hK.mono fun _ _ h=>h.elim) (by rintro b o h;cases h;exact .inl (za4 _)) (by
  intro C hC hle _ hσ
  refine⟨w.heap.size,cv,t,hσ,by subst hC;exact heap_alloc_new w _,zhr hle _ _ hc,h1⟩)
 refine⟨_,_,_,.inl hrun,?_,h2⟩
 simp only[rep,cx]
 exact⟨trivial,w.heap.size,0,by simp[setσ],rfl⟩
omit hR in
theorem ya3i{C:Cx}{d:D}{v:Value}(h:rep C d v)(h1:oneD d=true):v.oneCell'=true:=by
 cases d<;>simp only[oneD,zb0] at h1<;>simp only[rep] at h
 all_goals first
  |(subst h;rfl)
  |(obtain⟨_,rfl,_⟩:=h;exact ya7q _ _)
  |(obtain⟨rfl,_⟩:=h;rfl)
  |(obtain⟨_,_,rfl,_⟩:=h;rfl)
  |(obtain⟨_,_,_,rfl,_⟩:=h;rfl)
  |(obtain⟨_,_,_,_,_,rfl⟩:=h;rfl)
  |(obtain⟨_,_,_,_,rfl⟩:=h;rfl)
  |(obtain⟨_,_,_,rfl⟩:=h;rfl)
  |(obtain⟨_,rfl,_⟩:=h;rfl)
  |(cases v<;>first|rfl|cases h)
omit hR in
theorem zlt{C:Cx}:∀{l:List D} {vs:List Value},reps C l vs->l.all oneD=true->vs.all (·.oneCell')=true
 |[],vs,h,_=>by simp only[reps] at h;subst h;rfl
 |d::ds,vs,h,h1=>by
  simp only[reps] at h
  obtain⟨v,vs',rfl,hd,h⟩:=h
  simp only[List.all_cons,za0] at h1 ⊢
  exact⟨ya3i hd h1.1,zlt h h1.2⟩
omit hR in
theorem zkd:∀(l:List D) (vs:List Value),zfp l vs=true->vs.all (·.oneCell')=true/\D.idsL l=[]:=by
 intro l vs h
 fun_induction zfp l vs with
 |case1=>exact⟨rfl,rfl⟩
 |case10=>cases h
 |case2 b ds b' vs ih|case4 ds s vs ih=>
  simp only[za0] at h
  obtain⟨h1,h2⟩:=ih h.2
  exact⟨by simpa[Value.oneCell'] using h1,by simpa[D.idsL,D.ids] using h2⟩
 |case3 k n ds k' n' vs ih=>
  simp only[za0] at h
  obtain⟨h1,h2⟩:=ih h.2
  exact⟨by simpa[Value.oneCell'] using h1,by simpa[D.idsL,D.ids] using h2⟩
 |case5 s ds vs ih|case6 ds vs ih|case7 ds vs ih|case8 ds vs ih|case9 ds vs ih=>
  obtain⟨h1,h2⟩:=ih h
  exact⟨by simpa[Value.oneCell'] using h1,by simpa[D.idsL,D.ids] using h2⟩
theorem ya7v{o:Oper}{t:TypeId}{ti:TI}{id:Nat}(hn:F.nu id=true)(ho:o.op=.alloc t)(ht:zd3 P t ti=true):ze7 P E n a o (F.eff [(id,some (.box ti.zero))] (id,id+1)) (.ptr id 0) w:=by
 obtain⟨i,d,hi,hd,hs,⟨z,hz,hzc⟩,_⟩:=zcp ht
 obtain⟨h1,h2⟩:=zkd _ _ hzc
 refine zuw hR (t:=t) (cv:=z.cells) hn ?_ (zpc _ _ hzc) h1
 unfold execOp
 simp[ho,Instr.alloc,zeroValue,typeInfo,hi,hz,newVar,newRow]
theorem yab0{o:Oper}{t:TypeId}{x:Operand}{d:D}{id:Nat}(hn:F.nu id=true)(ho:o.op=.box t x)(hx:rep (cx w g F.hp) d (a.eval x))(h1:d.cells.all oneD=true)
  (hne:d.cells≠[]):ze7 P E n a o (F.eff [(id,some (.box d.cells))] (id,id+1)) (.ptr id 0) w:=by
 have hr:=zlx hx (zij hx hne).symm
 refine zuw hR (t:=t) (cv:=(a.eval x).cells) hn ?_ hr (zlt hr h1)
 unfold execOp
 simp[ho,Instr.box,newVar,newRow]
omit hR in
theorem zj8(w:World)(b:Nat)(old cs:Array Value)(t:TypeId)(fr:Nat×Nat)(hg:w.heap[b]?=some (.cells old t fr))(hsz:cs.size=old.size):Keep (fun k=>k=b) w (w.setRow b cs):=by
 refine⟨rfl,rfl,rfl,by simp,fun k _ hk=>setRow_other w b k cs hk,fun k _=>?_⟩
 by_cases e:k=b
 subst e
 simp[World.shape?,setRow_heap w k old cs t fr hg,hg,hsz]
 exact zle (setRow_other w b k cs e)
omit hR in
theorem zr6{t:TypeId}{ti:TI}{v:Value}{b off:Nat}{old:Array Value}{T:TypeId}(ht:zd3 P t ti=true)(hv:v.cells.size=ti.size)(hg:w.heap[b]?=some (.cells old T (0,0)))
  (hfit:off+ti.size<=old.size) (h1:v.cells.toList.all (·.oneCell')=true):
  (storeVar t ⟨b,off,none⟩ v).run P w=.ok () (w.setRow b (old.toList.take off++v.cells.toList++old.toList.drop (off+v.cells.size)).toArray):=by
 obtain⟨_,hsz⟩:=ya2n (w:=w) ht
 have:=run_storeCells_at P b off T v.cells.toList 0 old w hg (by simpa[hv] using hfit) (List.all_eq_true.1 h1)
 simp only[Nat.add_zero,Array.length_toList] at this
 simp[storeVar,hsz,hv,this]
theorem zza{o:Oper}{t:TypeId}{ti:TI}{x y:Operand}{id off:Nat}{cs:List D}{d:D}(ho:o.op=.store t x y)(ht:zd3 P t ti=true)
  (hx:rep (cx w g F.hp) (.ptr id off) (a.eval x)) (hy:rep (cx w g F.hp) d (a.eval y)) (hb:F.hp id=some (.box cs)) (hl:d.cells.length=ti.size) (hfit:off+ti.size<=cs.length) (h1:d.cells.all oneD=true)
  (hne:ti.size≠0):ze7 P E n a o (F.eff [(id,some (.box (zn7 cs off d.cells)))] (0,0)) .undef w:=by
 simp only[rep] at hx
 obtain⟨_,b,o',hσ,he⟩:=hx
 obtain⟨b',cv,T,hσ',hblk,hreps,hone⟩:=hR.mem.hd id _ hb
 have e:=hσ'.symm.trans hσ
 simp only[za5,zaa] at e
 obtain⟨rfl,rfl⟩:=e
 have hvs:(a.eval y).cells.size=d.cells.length:=zij hy (by intro e;rw[e] at hl;simp at hl;omega)
 have hvr:=zlx hy hvs.symm
 have hv1:=zlt hvr h1
 have hcl:cv.size=cs.length:=by simpa using zdh _ _ hreps
 have hst:(storeVar t ⟨b',off,none⟩ (a.eval y)).run P w=.ok () (w.setRow b' (cv.toList.take off++(a.eval y).cells.toList++cv.toList.drop (off+(a.eval y).cells.size)).toArray):=zr6 (P:=P) (v:=a.eval y) (off:=off) ht (by omega) hblk (by omega) hv1
 have hsz:(cv.toList.take off++(a.eval y).cells.toList++cv.toList.drop (off+(a.eval y).cells.size)).toArray.size=cv.size:=by simp;omega
 refine⟨undef,_,g,.inr ⟨?_,rfl⟩,by simp only[rep],Rel.wrote hR (by rw[hb];simp) hσ' (zj8 w b' cv _ T _ hblk hsz) ?_⟩
 unfold execOp
 simp only[ho,he,Instr.storeAt,Instr.sureAddr,pure_bind,Sem.run_bind,Nat.zero_add,hst,Result.andThen_ok,Sem.run_pure]
 intro C hC hle hrf hσC
 refine⟨b',_,T,hσC,by subst hC;exact setRow_heap w b' cv _ T _ hblk,?_,?_⟩
 have:=zhr hle _ _ (zop (off:=off) hreps hvr)
 simpa using this
 have h4:∀k,(cv.toList.take k).all (·.oneCell')=true:=fun k=>List.all_eq_true.2 fun z hz=>List.all_eq_true.1 hone z (List.mem_of_mem_take hz)
 have h5:∀k,(cv.toList.drop k).all (·.oneCell')=true:=fun k=>List.all_eq_true.2 fun z hz=>List.all_eq_true.1 hone z (List.mem_of_mem_drop hz)
 simp only[List.all_append,h4,h5,hv1,Bool.and_self]
end
end Go.Tm
namespace Go.Tm
open Go.RowKit Go.WideShapes
theorem zkc{C:Cx}:∀(l:List D) (b o s:Nat),zcf C l b o s->∃news:List Value,news.length=l.length*s/\C.w.rangeAt b o news/\news.all (·.oneCell')=true/\
  ∀(w':World) (b' o':Nat),w'.rangeAt b' o' news->∀C':Cx,C'.w=w'->C.Le C'->zcf C' l b' o' s
 |[],b,o,s,_=>⟨[],by simp,fun j v hj=>by simp at hj,rfl,fun _ _ _ _ _ _ _=>by simp only[zcf]⟩
 |d::ds,b,o,s,h=>by
  simp only[zcf] at h
  obtain⟨⟨v,h1,h2,h3,h4⟩,h5⟩:=h
  obtain⟨news,g1,g2,g3,g4⟩:=zkc ds b (o+s) s h5
  refine⟨v.cells.toList++news,by simp[g1,h2,Nat.succ_mul,Nat.add_comm],?_,by simp only[List.all_append,h3,g3,Bool.and_self],?_⟩
  intro j u hj
  rw[List.getElem?_append] at hj
  split at hj
  exact h4 j u hj
  rename_i hlt
  have:=g2 _ u hj
  simp only[Array.length_toList,h2] at this hlt
  rwa [show o+s+(j-s)=o+j by omega] at this
  intro w' b' o' hr C' hw hle
  simp only[zcf]
  refine⟨⟨v,zfv hle d v h1,h2,h3,?_⟩,g4 w' b' (o'+s) ?_ C' hw hle⟩
  rw[hw]
  intro j u hj
  refine hr j u ?_
  rw[List.getElem?_append_left (List.getElem?_eq_some_iff.1 hj).1]
  exact hj
  intro j u hj
  have:=hr (s+j) u (by rw[List.getElem?_append_right (by simp[h2])];simpa[h2] using hj)
  rwa [show o'+(s+j)=o'+s+j by omega] at this
theorem zhb{C:Cx}:∀(l l':List D) (b o s:Nat),zcf C l b o s->zcf C l' b (o+l.length*s) s->zcf C (l++l') b o s
 |[],l',b,o,s,_,h=>by simpa using h
 |d::ds,l',b,o,s,h,h'=>by
  simp only[zcf] at h
  simp only[zb2,zcf]
  refine⟨h.1,zhb ds l' b (o+s) s h.2 ?_⟩
  simp only[zak,Nat.succ_mul] at h'
  rwa [show o+s+ds.length*s=o+(ds.length*s+s) by omega]
theorem zst(m:Nat):∀(l:List D),(mkML m l).length=l.length
 |[]=>by simp only[mkML]
 |d::ds=>by simp only[mkML,zak,zst m ds]
theorem zss(m:Nat)(l:List D):(mkZL m l).length=l.length:=by
 cases m
 rfl
 exact zst _ l
theorem ya3s(m:Nat):∀(l:List D),mkZL m l=l.map (mkZ m)
 |[]=>by cases m<;>simp[mkZL,mkML]
 |d::ds=>by
  have:=ya3s m ds
  cases m
  simp only[mkZL] at this ⊢;simp[mkZ];exact this
  simp only[mkZL,mkML,zai] at this ⊢;rw[this];rfl
theorem ya4i{C:Cx}{m:Nat}{Z:Nat->Prop}(hz:C.zone m=some Z)(hf:C.fl=true):∀(l:List D) (b o s:Nat),zcf (C.at Z) l b o s->zcf C.noref (mkZL m l) b o s:=by
 intro l
 rw[ya3s]
 induction l with
 |nil=>intro b o s _;simp only[List.map_nil,zcf]
 |cons d ds ih=>
  intro b o s h
  simp only[zcf,zai] at h ⊢
  obtain⟨⟨v,h1,h2,h3,h4⟩,h5⟩:=h
  exact⟨⟨v,ya38 (C:=C.noref) hz hf h1,h2,h3,h4⟩,ih _ _ _ h5⟩
def SrcV(C:Cx)(esz:Nat)(xs:List D)(p:Bool)(v:Value):Prop:=
 (∃ax c,v=.slice ax xs.length c/\(xs=[]\/∃a0:Addr,ax=some a0/\a0.spot=none/\zcf {C with rf:=!p} xs a0.block a0.off esz))\/(p=true/\∃l:List UInt8,v=.string ⟨l.toArray⟩/\xs=l.map ub/\esz=1)
def Carry(C:Cx)(xs:List D)(s:Nat)(news:List Value):Prop:=
 ∀(w':World) (b' o':Nat),w'.rangeAt b' o' news->∀C':Cx,C'.w=w'->C.Le C'->zcf C' xs b' o' s
theorem ya9r{C:Cx}(b:UInt8):rep C (ub b) (.int .u8 (b.toNat:Int)):=by
 simp only[ub,rep]
 have:=b.toNat_lt
 refine⟨trivial,?_,?_⟩<;>simp[IntKind.min,IntKind.max,IntKind.signed,IntKind.bits]<;>omega
theorem zox{C:Cx}:∀(l:List UInt8),Carry C (l.map ub) 1 (l.map fun b=>Value.int .u8 (b.toNat:Int))
 |[],w',b',o',h,C',hw,hle=>by simp only[List.map_nil,zcf]
 |b::l,w',b',o',h,C',hw,hle=>by
  simp only[zai,zcf] at h ⊢
  refine⟨⟨_,ya9r b,rfl,rfl,?_⟩,zox l w' b' (o'+1) ?_ C' hw hle⟩
  rw[hw]
  intro j u hj
  cases j with
  |zero=>simp[Value.cells] at hj;subst hj;exact h 0 _ rfl
  |succ j=>simp[Value.cells] at hj
  intro j u hj
  have:=h (j+1) u (by simpa using hj)
  rwa [show o'+(j+1)=o'+1+j by omega] at this
theorem zv2{C:Cx}{s:Nat}:∀(n:Nat) (xs:List D) (b o:Nat),zcf C xs b o s->n<=xs.length->∃news:List Value,news.length=n*s/\C.w.rangeAt b o news/\news.all (·.oneCell')=true/\Carry C (xs.take n) s news:=by
 intro n xs b o h hn
 obtain⟨news,h1,h2,h3,h4⟩:=zkc _ _ _ _ (zhl xs n b o s h)
 exact⟨news,by rw[h1,List.length_take,Nat.min_eq_left hn],h2,h3,h4⟩
section
variable {P : Program} {C : Cx}
theorem zry{a0:Addr}(h:a0.spot=none)(j:Nat):a0.add j=⟨a0.block,a0.off+j,none⟩:=by
 unfold Addr.add;split
 ·cases a0;simp_all
 rfl
theorem SrcV.first{esz:Nat}{xs:List D}{p:Bool}{v:Value}(h:SrcV C esz xs p v){n:Nat}(hn:n<=xs.length):
  ∃news:List Value,news.length=n*esz/\(Builtin.firstCells esz n v).run P C.w=.ok news.toArray C.w/\news.all (·.oneCell')=true/\Carry {C with rf:=!p} (xs.take n) esz news:=by
 rcases h with⟨ax,c,rfl,h⟩|⟨rfl,l,rfl,rfl,rfl⟩
 rcases h with rfl|⟨a0,rfl,hs,he⟩
 have:n=0:=by simpa using hn
 subst this
 refine⟨[],by simp,?_,rfl,fun _ _ _ _ _ _ _=>by simp only[List.take_nil,zcf]⟩
 cases ax<;>simp[Builtin.firstCells,loadCells,loadCellsFrom]
 obtain⟨news,h1,h2,h3,h4⟩:=zv2 n xs _ _ he hn
 refine⟨news,h1,?_,h3,h4⟩
 refine run_firstCells_some C.w esz n a0 xs.length c news h1 ?_
 intro j u hj
 rw[zry hs]
 exact h2 j u hj
 refine⟨(l.take n).map fun b=>Value.int .u8 (b.toNat:Int),by simp at hn ⊢;omega,?_,?_,?_⟩
 simp only[Builtin.firstCells,Sem.run_pure]
 congr 1
 apply Array.ext'
 simp[ByteArray.data_extract]
 exact List.all_eq_true.2 fun x hx=>by obtain⟨_,_,rfl⟩:=List.mem_map.1 hx;rfl
 rw[<-List.map_take]
 exact zox _
theorem SrcV.len{esz:Nat}{xs:List D}{p:Bool}{v:Value}(h:SrcV C esz xs p v)(w':World):(Builtin.lenOf v).run P w'=.ok xs.length w':=by
 rcases h with⟨ax,c,rfl,h⟩|⟨_,l,rfl,rfl,rfl⟩
 rfl
 simp[Builtin.lenOf,ByteArray.size]
theorem SrcV.src{esz:Nat}{xs:List D}{p:Bool}{v:Value}{tx:TypeId}(h:SrcV C esz xs p v)(ht:(∃e',P.underlying tx=some (.slice e'))\/P.underlying tx=some .string):
  ∃news:List Value,Go.Src P esz tx v xs.length news C.w/\Carry {C with rf:=!p} xs esz news:=by
 obtain⟨news,h1,h2,h3,h4⟩:=h.first (P:=P) (za4 _)
 rw[List.take_length] at h4
 refine⟨news,⟨ht,h.len,h2,?_,h1,List.all_eq_true.1 h3⟩,h4⟩
 rcases h with⟨ax,c,rfl,h⟩|⟨rfl,l,rfl,rfl,rfl⟩
 cases ax with
 |none=>
  have:xs=[]:=by
   rcases h with h|⟨a0,h,_⟩
   exact h
   cases h
  subst this
  have:news=[]:=zah (by simpa using h1)
  subst this
  simp[Builtin.firstCells]
 |some a=>
  rcases h with rfl|⟨a0,ha,hs,he⟩
  have:news=[]:=zah (by simpa using h1)
  subst this
  simp[Builtin.firstCells,loadCells,loadCellsFrom]
  cases ha
  obtain⟨news',g1,g2,g3,g4⟩:=zv2 xs.length xs _ _ he (za4 _)
  have e1:=run_firstCells_some (P:=P) C.w esz xs.length a xs.length c news' g1 (by intro j u hj;rw[zry hs];exact g2 j u hj)
  rw[h2] at e1
  have e2:news=news':=by
   injection e1 with e1
   have:=congrArg Array.toList e1
   simpa using this
  subst e2
  exact run_firstCells_some (P:=P) C.w.drew esz xs.length a xs.length c news g1 (by intro j u hj;rw[zry hs];simpa using g2 j u hj)
 simp only[Builtin.firstCells,Sem.run_pure,Result.ok.injEq] at h2 ⊢
 exact⟨h2.1,trivial⟩
end
section
variable {P : Program} {E : En} {n : Nat} {F : FrS} {a : Act} {w : World} {g : Gh} (hR : Rel E n F a w g)
include hR
theorem zn5{esz:Nat}{dx:D}{v:Value}{xs:List D}{p vx:Bool}(rx:rep (cx w g F.hp) dx v)(hm:srcD F.hp esz dx=some (xs,p,vx))(hv:vx=true):SrcV (cx w g F.hp) esz xs p v:=by
 unfold srcD at hm
 split at hm
 rename_i s' l c
 cases hm
 simp only[za0,zau,List.isEmpty_iff] at hv
 obtain⟨hv1,hv2⟩:=hv
 obtain⟨Z,hZ⟩:=hR.mem.live (lb hv2)
 simp only[rep] at rx
 obtain⟨ad,cap,rfl,_,_,_,_,_,_,_,h⟩:=rx
 refine .inl ⟨ad,cap,by rw[zss],?_⟩
 rcases h with rfl|h
 left;cases c/8<;>simp[mkZL,mkML]
 rcases hv1 with hv1|rfl
 obtain rfl:=nb hv1
 obtain⟨a0,h1,h2,_,_,_,h3⟩:=h Z hZ
 exact .inr ⟨a0,h1,h2,ya4i hZ rfl _ _ _ _ h3⟩
 left;cases c/8<;>simp[mkZL,mkML]
 rename_i id s' off len oc
 split at hm
 rename_i e s'' p' items hb
 cases hm
 simp only[za0] at hv
 obtain⟨⟨hv1,hv2⟩,hl⟩:=hv
 obtain rfl:=nb hv1
 obtain rfl:=nb hv2
 have hl:=lb hl
 simp only[rep] at rx
 obtain⟨_,ad,cap,rfl,h1,h2,h3,_,h4⟩:=rx
 have hlen:((items.drop off).take len).length=len:=by simp;omega
 refine .inl ⟨ad,cap,by rw[hlen],?_⟩
 by_cases hz:len=0
 left;subst hz;simp
 right
 rcases h4 with h4|⟨b,T,nn,hσ,rfl,hsh,hn⟩
 omega
 rcases hR.mem.hd id _ hb with⟨rfl,_⟩|⟨b',cs,hσ',hblk,hsz,hel⟩
 simp at hl;omega
 have e:=hσ'.symm.trans hσ
 simp only[za5,zaa] at e
 obtain⟨rfl,_⟩:=e
 refine⟨_,rfl,rfl,zhl _ _ _ _ _ ?_⟩
 have:=zjc _ off _ _ _ hel
 simpa using this
 cases hm
 cases hm
 simp only[rep] at rx
 exact .inr ⟨rfl,_,rx.1,rfl,nb hv⟩
 cases hm
omit hR in
theorem zfq{w:World}{b o:Nat}{cs:Array Value}{T:TypeId}{fz:Nat×Nat}(h:w.heap[b]?=some (.cells cs T fz))(pre l suf:List Value)(hc:cs.toList=pre++l++suf)(ho:o=pre.length):w.rangeAt b o l:=by
 intro i u hi
 subst ho
 simp only[World.cell?,h]
 have hlt:=(List.getElem?_eq_some_iff.1 hi).1
 have:cs.toList[pre.length+i]?=some u:=by
  rw[hc,List.append_assoc,List.getElem?_append_right (by omega),Nat.add_sub_cancel_left,List.getElem?_append_left hlt]
  exact hi
 simpa using this
theorem znx{o:Oper}{e:TypeId}{id esz ncap:Nat}{its:List D}{p:Bool}{cells rest:List Value}{kl oc:Option Nat}{w1:World}(hn:F.nu id=true)(hk1:Keep (fun _=>False) w w1)(hsz1:w1.heap.size=w.heap.size)
  (hrun:(execOp a.eval o).run P w=.ok (.value (.slice (some ⟨w.heap.size,0,none⟩) its.length ncap)) (w1.alloc (.cells (cells++rest).toArray e)))
  (hrest:cells.length+rest.length=ncap*esz) (hc1:its.length<=ncap) (hc2:(ncap:Int)<=9223372036854775807) (hoc:∀c,oc=some c->capK c=true->ncap=c)
  (hold:Carry {cx w g F.hp with rf:=!p} its esz cells):
  ze7 P E n a o (F.eff ((id,some (.arr e esz p its))::kill kl) (id,id+1)) (.ref id esz 0 its.length oc) w:=by
 have hK:Keep (fun _=>False) w (w1.alloc (.cells (cells++rest).toArray e)):=hk1.trans (Keep.alloc _ _ _)
 have hblk:(w1.alloc (.cells (cells++rest).toArray e)).heap[w.heap.size]?=some (.cells (cells++rest).toArray e (0,0)):=by
  rw[<-hsz1];exact heap_alloc_new w1 _
 obtain⟨h2,h3⟩:=Rel.made hR (m:=id) (blk:=.arr e esz p its) (loc:=some (w.heap.size,0)) (kl:=kl) hn (hK.mono fun _ _ h=>h.elim) (by rintro b o h;cases h;exact .inl (za4 _)) (by
  intro C hC hle hrf hσ
  refine .inr ⟨w.heap.size,(cells++rest).toArray,hσ,by subst hC;exact hblk,?_,?_⟩
  simp only[List.size_toArray,zaq,hrest]
  exact Nat.mul_le_mul_right _ hc1
  refine hold (w1.alloc (.cells (cells++rest).toArray e)) _ _ (zfq hblk [] cells rest (by simp) rfl) _ (by subst hC;rfl) (zqo hle rfl _ _ (fun x=>x)))
 refine⟨_,_,_,.inl hrun,?_,h2⟩
 simp only[rep]
 have hsh:(cx (w1.alloc (.cells (cells++rest).toArray e)) (setσ g id (some (w.heap.size,0))) (F.eff ((id,some (.arr e esz p its))::kill kl) (id,id+1)).hp).w.shape? w.heap.size=some (e,ncap*esz):=by
  simp only[cx,World.shape?,hblk,List.size_toArray,zaq,hrest]
 exact⟨rfl,_,_,rfl,hc1,hc2,by simp,⟨hoc,fun _=>⟨w.heap.size,e,ncap*esz,by simp[cx,setσ],hsh,by simp⟩⟩,.inr ⟨w.heap.size,e,ncap*esz,by simp[cx,setσ],by simp,hsh,by simp⟩⟩
omit hR in
theorem zu7{t tx ty e:TypeId}{i:TypeInfo}(ht:P.underlying t=some (.slice e))(hi:P.info? e=some i){b off sLen sCap:Nat}{x:Value}{m:Nat}{news:List Value}(hs:Go.Src P i.size tx x m news w)
  {cs:Array Value} {T:TypeId} (hblk:w.heap[b]?=some (.cells cs T (0,0))) (hfit:off+sLen*i.size+news.length<=cs.size) (hroom:sLen+m<=sCap):
  (Builtin.append_ #[t,tx] ty #[.slice (some ⟨b,off,none⟩) sLen sCap,x]).run P w=.ok (.slice (some ⟨b,off,none⟩) (sLen+m) sCap) (w.setRow b (cs.toList.take (off+sLen*i.size)++news++cs.toList.drop (off+sLen*i.size+news.length)).toArray):=by
 have hst:=run_storeCells_at P b (off+sLen*i.size) T news 0 cs w hblk (by simpa using hfit) hs.one
 simp only[Nat.add_zero] at hst
 rcases hs.kind with⟨e',hk⟩|hk<;>simp[Builtin.append_,run_underlying ht,run_underlying hk,sizeOf,typeInfo,hi,hs.len,hroom,hs.cells,Addr.add_lit,hst]
omit hR in
theorem zio{t tx ty e:TypeId}{i:TypeInfo}(ht:P.underlying t=some (.slice e))(hi:P.info? e=some i){base:Option Addr}{sLen sCap:Nat}{x:Value}(hs:Go.Src P i.size tx x 0 [] w)(hroom:sLen<=sCap):
  (Builtin.append_ #[t,tx] ty #[.slice base sLen sCap,x]).run P w=.ok (.slice base sLen sCap) w:=by
 rcases hs.kind with⟨e',hk⟩|hk<;>cases base<;>simp[Builtin.append_,run_underlying ht,run_underlying hk,sizeOf,typeInfo,hi,hs.len,hroom,hs.cells,storeCells]
theorem zyy{o:Oper}{ti:TI}{e:TypeId}{id k b cap:Nat}{its xs:List D}{p q:Bool}{cs:Array Value}{news:List Value}{oc:Option Nat}{w1:World}(hn:F.nu id=true)
  (hrun:(execOp a.eval o).run P w=.ok (.value (.slice (some ⟨b,0,none⟩) (its.length+xs.length) cap)) w1) (hw1:w1=w.setRow b (cs.toList.take (its.length*ti.esz)++news++cs.toList.drop (its.length*ti.esz+news.length)).toArray)
  (hk:F.hp k≠none) (hσ:g.σ k=some (b,0)) (hblk:w.heap[b]?=some (.cells cs e (0,0))) (hcs:cap*ti.esz<=cs.size) (hnl:news.length=xs.length*ti.esz) (hroom:its.length+xs.length<=cap) (hcap2:(cap:Int)<=9223372036854775807)
  (hoc:∀c,oc=some c->capK c=true->cap=c) (hfull:oc=none->cap*ti.esz=cs.size) (hele:zcf {cx w g F.hp with rf:=!p} its b 0 ti.esz) (hnew:Carry {cx w g F.hp with rf:=!q} xs ti.esz news):
  ze7 P E n a o (F.eff ((id,some (.arr e ti.esz (p&&q) (its++xs)))::kill (some k)) (id,id+1)) (.ref id ti.esz 0 (its.length+xs.length) oc) w:=by
 subst hw1
 obtain⟨olds,o1,o2,o3,o4⟩:=zkc its _ _ _ hele
 have hfit:its.length*ti.esz+news.length<=cs.size:=by
  rw[hnl,<-Nat.add_mul];exact zao (Nat.mul_le_mul_right _ hroom) hcs
 have hszz:(cs.toList.take (its.length*ti.esz)++news++cs.toList.drop (its.length*ti.esz+news.length)).toArray.size=cs.size:=by simp;omega
 have hK:Keep (zty g F.hp fun x=>some k=some x) w (w.setRow b (cs.toList.take (its.length*ti.esz)++news++cs.toList.drop (its.length*ti.esz+news.length)).toArray):=
  (zj8 w b cs _ e _ hblk hszz).mono fun x _ ee=>by subst ee;exact⟨k,0,rfl,hk,hσ⟩
 have hblk':=setRow_heap w b cs (cs.toList.take (its.length*ti.esz)++news++cs.toList.drop (its.length*ti.esz+news.length)).toArray e _ hblk
 have hold0:cs.toList.take (its.length*ti.esz)=olds:=by
  apply List.ext_getElem?
  intro i
  rw[List.getElem?_take]
  split
  rename_i hlt
  have hlo:i<olds.length:=by rw[o1];exact hlt
  have:=o2 i olds[i] (List.getElem?_eq_getElem hlo)
  simp only[cx,World.cell?,hblk,Nat.zero_add] at this
  rw[List.getElem?_eq_getElem hlo]
  simpa using this
  rename_i hge
  rw[List.getElem?_eq_none];rw[o1];omega
 obtain⟨h2,h3⟩:=Rel.made hR (m:=id) (blk:=.arr e ti.esz (p&&q) (its++xs)) (loc:=some (b,0)) (kl:=some k) hn hK (by rintro b' o' h;cases h;exact .inr ⟨k,0,rfl,hk,hσ⟩) (by
  intro C hC hle hrf hσC
  refine .inr ⟨b,_,hσC,by subst hC;exact hblk',?_,?_⟩
  rw[hszz,zaq];exact zao (Nat.mul_le_mul_right _ hroom) hcs
  have hCw:C.w=w.setRow b (cs.toList.take (its.length*ti.esz)++news++cs.toList.drop (its.length*ti.esz+news.length)).toArray:=by subst hC;rfl
  refine zhb _ _ _ _ _ (o4 _ _ _ (zfq hblk' [] olds (news++cs.toList.drop (its.length*ti.esz+news.length)) (by rw[hold0];simp) rfl) _ hCw (zqo hle rfl _ _ (by cases p<;>cases q<;>simp))) ?_
  refine hnew _ _ _ (zfq hblk' olds news (cs.toList.drop (its.length*ti.esz+news.length)) (by rw[hold0]) ?_) _ hCw (zqo hle rfl _ _ (by cases p<;>cases q<;>simp))
  rw[Nat.zero_add,o1])
 refine⟨_,_,_,.inl hrun,?_,h2⟩
 simp only[rep]
 refine⟨rfl,_,_,rfl,hroom,hcap2,by simp,⟨hoc,fun h=>⟨b,e,cs.size,by simp[cx,setσ],?_,by rw[Nat.zero_mul,Nat.zero_add];exact hfull h⟩⟩,.inr ⟨b,e,cs.size,by simp[cx,setσ],by simp,?_,by omega⟩⟩
 all_goals simp only[cx,World.shape?,hblk',hszz]
theorem ya61{o:Oper}{c:Call}{t t':TypeId}{ti:TI}{s x:Operand}{ds:D}{xs:List D}{q vx:Bool}{id:Nat}{out:Out}(hn:out.nw=(id,id+1)->F.nu id=true)(ho:o.op=.call c)(hc:c.callee=.builtin .append)(hca:c.args.toList=[s,x])(hct:c.argTypes.toList=[t,t'])
  (ht:zd3 P t ti=true) (hk:ti.kind=3) (ht':(∃e',P.underlying t'=some (.slice e'))\/P.underlying t'=some .string) (hs:rep (cx w g F.hp) ds (a.eval s)) (hx:vx=true->SrcV (cx w g F.hp) ti.esz xs q (a.eval x))
  (h:zat F.hp id ti.el ti.esz ti.eby ds xs q vx=some out) (hv:out.vc=true):
  ze7 P E n a o (F.eff out.eff out.nw) out.d w:=by
 obtain⟨e,j,hu,hj,hj1,hj2,hj3,hj4,⟨z,hz,hzs,_⟩,hel⟩:=zcs ht hk
 subst hel
 have e1:c.args=#[s,x]:=by apply Array.ext';simpa using hca
 have e2:c.argTypes=#[t,t']:=by apply Array.ext';simpa using hct
 have hop:∀sv,a.eval s=sv->∀v' w',(Builtin.append_ #[t,t'] o.type #[sv,a.eval x]).run P w=.ok v' w'->(execOp a.eval o).run P w=.ok (.value v') w':=by
  intro sv h1 v' w' hr
  unfold execOp;simp[ho,resolve,hc,e1,e2,h1,invoke,builtin,hr]
 have hgrow:F.nu id=true->∀(base:Option Addr) (its:List D) (p:Bool) (cap:Nat) (kl:Option Nat),a.eval s=.slice base its.length cap->SrcV (cx w g F.hp) ti.esz its p (.slice base its.length cap)->vx=true->cap<its.length+xs.length->(its.length+xs.length)*ti.eby<=140737488355328->
   ze7 P E n a o (F.eff ((id,some (.arr ti.el ti.esz (p&&q) (its++xs)))::kill kl) (id,id+1)) (.ref id ti.esz 0 (its.length+xs.length) none) w:=by
  intro hn base its p cap kl hsv hsrc hvx hlt hb
  have hbd:its.length+xs.length<=140737488355328:=by
   have:(its.length+xs.length)*1<=(its.length+xs.length)*ti.eby:=Nat.mul_le_mul_left _ (by omega)
   omega
  obtain⟨news,hN,hNc⟩:=(hx hvx).src (P:=P) ht'
  obtain⟨olds,hO,hOc⟩:=hsrc.src (P:=P) (.inl ⟨ti.el,hu⟩)
  have hr:=hop _ hsv _ _ (run_append_grow_src (P:=P) w t t' o.type ti.el j z hu hj hz base its.length cap olds (by rw[hj1];exact hO.cellsD) _ xs.length news (by rw[hj1];exact hN) hlt (by omega) (growslice_fits (by omega) (by rw[hj2];exact hb)))
  have hge:=grownCap_ge w (its.length+xs.length) cap ti.el
  have hmx:=grownCap_le_maxLen w (its.length+xs.length) cap ti.el (by unfold maxLen;omega)
  unfold maxLen at hmx
  have hlen:(its++xs).length=its.length+xs.length:=zaq
  rw[<-hlen]
  refine znx hR (e:=ti.el) (esz:=ti.esz) (ncap:=grownCap w (its.length+xs.length) cap ti.el) (cells:=olds++news) (rest:=(Builtin.zeroCells z.cells (grownCap w (its.length+xs.length) cap ti.el-(its.length+xs.length))).toList) (w1:=w.drew) hn (Keep.refl _ w).drew rfl ?_ ?_ ?_ ?_ ?_ ?_
  rw[hr,hlen]
  congr 3
  apply Array.ext'
  simp
  have hz0:(Builtin.zeroCells z.cells (grownCap w (its.length+xs.length) cap ti.el-(its.length+xs.length))).toList.length=(grownCap w (its.length+xs.length) cap ti.el-(its.length+xs.length))*ti.esz:=by
   rw[<-hj1,<-hzs,<-size_zeroCells];exact Array.length_toList
  rw[zaq,hO.newsLen,hN.newsLen,hz0,<-Nat.add_mul,<-Nat.add_mul]
  congr 1;omega
  omega
  omega
  intro c hc;cases hc
  intro w' b' o' hr' C' hw hle
  refine zhb _ _ _ _ _ (hOc w' b' o' ?_ C' hw ?_) (hNc w' b' _ ?_ C' hw ?_)
  intro i u hi
  exact hr' i u (by rw[List.getElem?_append_left (List.getElem?_eq_some_iff.1 hi).1];exact hi)
  refine Cx.Le.trans (B:={cx w g F.hp with rf:=!(p&&q)}) ?_ hle (za4 _)
  exact zqo (Cx.Le.refl _) rfl _ _ (by cases p<;>cases q<;>simp)
  intro i u hi
  have:=hr' (olds.length+i) u (by rw[List.getElem?_append_right (by omega),Nat.add_sub_cancel_left];exact hi)
  rwa [show o'+(olds.length+i)=o'+its.length*ti.esz+i by rw[hO.newsLen];omega] at this
  refine Cx.Le.trans (B:={cx w g F.hp with rf:=!(p&&q)}) ?_ hle (za4 _)
  exact zqo (Cx.Le.refl _) rfl _ _ (by cases p<;>cases q<;>simp)
 unfold zat at h
 split at h
 -- to nothing
 rename_i s' c'
 simp only[rep] at hs
 obtain⟨ad,cap,hsv,g1,g2,g3,g4,g5,g6,g7,g8⟩:=hs
 split at h
 cases h
 have hv1:vx=true:=hv
 obtain⟨news,hN,hNc⟩:=(hx hv1).src (P:=P) ht'
 have hnn:news=[]:=zah (by simpa using hN.newsLen)
 subst hnn
 have hr:=hop _ hsv _ _ (zio (P:=P) hu hj (by rw[hj1];exact hN) (Nat.zero_le _))
 refine zal hR ⟨_,hr,?_⟩
 simp only[rep]
 exact⟨ad,cap,rfl,g1,g2,g3,g4,g5,g6,g7,.inl trivial⟩
 rename_i y ys
 cases h
 simp only[za0,zau,decide_eq_true_eq] at hv
 obtain⟨⟨hv1,hv2⟩,hv3⟩:=hv
 have hcap:cap=0:=g5 (by rcases hv2 with h|h;exact .inl (lb h);exact .inr (nb h))
 subst hcap
 have:=hgrow (hn rfl) ad [] q 0 none (by simpa using hsv) (.inl ⟨ad,0,by simp,.inl rfl⟩) hv1 (by simp) (by simpa using hv3)
 simpa[kill] using this
 rename_i id' s' off len oc
 split at h
 rename_i e' s'' p items hb
 have hs0:=hs
 simp only[rep] at hs0
 obtain⟨_,ad,cap,hsv,g1,g2,g3,goc,g4⟩:=hs0
 rw[hsv] at hs
 have hb0:F.hp id'≠none:=by rw[hb];simp
 -- what lies there
 have hrow:s'=ti.esz->s''=ti.esz->e'=ti.el->(cap=0)\/∃b cs,ad=some ⟨b,off*ti.esz,none⟩/\g.σ id'=some (b,0)/\w.heap[b]?=some (.cells cs ti.el (0,0))/\off*ti.esz+cap*ti.esz<=cs.size/\zcf {cx w g F.hp with rf:=!p} items b 0 ti.esz/\(oc=none->off*ti.esz+cap*ti.esz=cs.size):=by
  rintro rfl rfl rfl
  rcases g4 with g4|⟨b,T,nn,hσ,rfl,hsh,hnn⟩
  exact .inl g4
  rcases hR.mem.hd id' _ hb with⟨rfl,hσ'⟩|⟨b',cs,hσ',hblk,hsz,hele⟩
  rw[hσ] at hσ';cases hσ'
  have e:=hσ'.symm.trans hσ
  simp only[za5,zaa] at e
  obtain⟨rfl,_⟩:=e
  have hblk':w.heap[b']?=some (.cells cs ti.el (0,0)):=hblk
  have hshe:(cx w g F.hp).w.shape? b'=some (ti.el,cs.size):=by simp[cx,World.shape?,hblk']
  rw[hsh] at hshe
  simp only[za5,zaa] at hshe
  refine .inr ⟨b',cs,rfl,hσ',hblk',by rw[<-hshe.2];exact hnn,hele,fun ho=>?_⟩
  obtain⟨b2,T2,n2,k1,k2,k3⟩:=goc.2 ho
  have e2:=k1.symm.trans hσ
  simp only[za5,zaa] at e2
  obtain⟨rfl,_⟩:=e2
  rw[hsh] at k2
  simp only[za5,zaa] at k2
  rw[<-hshe.2,k2.2];exact k3
 have hsrc:s'=ti.esz->s''=ti.esz->off+len<=items.length->SrcV (cx w g F.hp) ti.esz ((items.drop off).take len) p (.slice ad ((items.drop off).take len).length cap):=by
  intro h1 h2 h3
  have hlen:((items.drop off).take len).length=len:=by simp;omega
  rw[hlen]
  refine zn5 hR (esz:=ti.esz) (dx:=.ref id' s' off len oc) (vx:=Nat.beq s' ti.esz&&Nat.beq s'' ti.esz&&Nat.ble (off+len) items.length) hs ?_ ?_
  simp only[srcD,hb]
  simp only[za0]
  exact⟨⟨by rw[h1];exact Nat.beq_refl _,by rw[h2];exact Nat.beq_refl _⟩,zap h3⟩
 -- in place
 have hplace:F.nu id=true->s'=ti.esz->s''=ti.esz->e'=ti.el->off=0->len=items.length->vx=true->len+xs.length<=cap->(∀c,oc=some c->capK c=true->cap=c)->
   ze7 P E n a o (F.eff [(id,some (.arr ti.el ti.esz (p&&q) (items++xs))),(id',none)] (id,id+1)) (.ref id ti.esz 0 (len+xs.length) oc) w:=by
  intro hn h1 h2 h3 h4 h5 hvx hroom hoc
  obtain⟨news,hN,hNc⟩:=(hx hvx).src (P:=P) ht'
  rcases hrow h1 h2 h3 with hc0|⟨b,cs,had,hσ,hblk,hcs,hele,hfull⟩
  have hx0:xs=[]:=zah (by omega)
  have hi0:items=[]:=zah (by omega)
  subst hx0
  subst hi0
  have hnn:news=[]:=zah (by simpa using hN.newsLen)
  subst hnn
  have hr:=hop _ hsv _ _ (zio (P:=P) hu hj (by rw[hj1];exact hN) g1)
  cases hoc0:oc with
  |some c0=>
   obtain⟨h2',h3'⟩:=Rel.made hR (m:=id) (blk:=.arr ti.el ti.esz (p&&q) []) (loc:=none) (kl:=some id') hn ((Keep.refl _ w).mono fun _ _ h=>h) (by rintro b o h;cases h) (by
    intro C hC hle hrf hσ
    exact .inl ⟨rfl,hσ⟩)
   refine⟨_,_,_,.inl hr,?_,h2'⟩
   simp only[rep]
   exact⟨rfl,_,_,rfl,by simpa using g1,g2,g3,⟨fun c h=>hoc c (by rw[hoc0];exact h),(fun h=>by cases h)⟩,.inl hc0⟩
  |none=>
   obtain⟨b,T,nn,hσ,hsh,hnn⟩:=goc.2 hoc0
   rcases hR.mem.hd id' _ hb with⟨_,hσ'⟩|⟨b',cs,hσ',hblk,hsz,hele⟩
   rw[hσ] at hσ';cases hσ'
   have e:=hσ'.symm.trans hσ
   simp only[za5,zaa] at e
   obtain⟨rfl,_⟩:=e
   subst h2 h3
   have hblk0:w.heap[b']?=some (.cells cs ti.el (0,0)):=hblk
   obtain⟨h2',h3'⟩:=Rel.made hR (m:=id) (blk:=.arr ti.el ti.esz (p&&q) []) (loc:=some (b',0)) (kl:=some id') hn ((Keep.refl _ w).mono fun _ _ h=>h) (by rintro b o h;cases h;exact .inr ⟨id',0,rfl,hb0,hσ'⟩) (by
    intro C hC hle hrf hσC
    exact .inr ⟨b',cs,hσC,by subst hC;exact hblk0,by simp,by simp only[zcf]⟩)
   refine⟨_,_,_,.inl hr,?_,h2'⟩
   simp only[rep]
   refine⟨rfl,_,_,rfl,by simpa using g1,g2,g3,⟨(fun c h=>by cases h),fun _=>⟨b',T,nn,by simp[cx,setσ],hsh,?_⟩⟩,.inl hc0⟩
   rw[h4,h1] at hnn;exact hnn
  subst h4
  simp only[Nat.zero_mul,Nat.zero_add] at had hcs hfull
  subst had
  have hr:=hop _ hsv _ _ (zu7 (P:=P) (off:=0) hu hj (by rw[hj1];exact hN) hblk (by rw[hN.newsLen,hj1,Nat.zero_add,<-Nat.add_mul];exact zao (Nat.mul_le_mul_right _ hroom) hcs) hroom)
  subst h5
  exact zyy hR (ti:=ti) (k:=id') hn hr (by rw[hj1];simp only[Nat.zero_add]) hb0 hσ hblk hcs hN.newsLen hroom g2 hoc hfull hele hNc
 cases oc with
 |none=>
  simp only[za5] at h
  subst h
  simp only[za0,decide_eq_true_eq] at hv
  obtain⟨⟨⟨⟨⟨⟨v1,v2⟩,v3⟩,v4⟩,v5⟩,v6⟩,v7⟩:=hv
  have v2:=nb v2
  have v3:=nb v3
  have v4:=nb v4
  have v5:=nb v5
  have v6:=nb v6
  by_cases hroom:len+xs.length<=cap
  exact hplace (hn rfl) v3 v4 v2 v5 v6 v1 hroom (fun c h=>by cases h)
  have hi:(items.drop off).take len=items:=by subst v5 v6;simp
  have:=hsrc v3 v4 (by omega)
  rw[hi] at this
  have:=hgrow (hn rfl) ad items p cap (some id') (by rw[<-v6];exact hsv) this v1 (by omega) v7
  rw[v6]
  exact this
 |some c0=>
  simp only at h
  cases hk0:capK c0
  rw[hk0] at h
  simp only[Bool.not_false,cond_true,za5] at h
  subst h
  simp only[za0,decide_eq_true_eq] at hv
  obtain⟨⟨⟨⟨⟨⟨v1,v2⟩,v3⟩,v4⟩,v5⟩,v6⟩,v7⟩:=hv
  have v2:=nb v2
  have v3:=nb v3
  have v4:=nb v4
  have v5:=nb v5
  have v6:=nb v6
  by_cases hroom:len+xs.length<=cap
  exact hplace (hn rfl) v3 v4 v2 v5 v6 v1 hroom (fun c h hk=>by cases h;rw[hk0] at hk;cases hk)
  have hi:(items.drop off).take len=items:=by subst v5 v6;simp
  have:=hsrc v3 v4 (by omega)
  rw[hi] at this
  have:=hgrow (hn rfl) ad items p cap (some id') (by rw[<-v6];exact hsv) this v1 (by omega) v7
  rw[v6]
  exact this.weak (fun v w' g' hr=>zyj hr hk0)
  rw[hk0] at h
  simp only[Bool.not_true,cond_false] at h
  have hc0:=goc.1 c0 rfl hk0
  cases hlt:Nat.blt c0 (len+xs.length)
  rw[hlt] at h
  simp only[cond_false] at h
  have hge:len+xs.length<=c0:=by
   rcases Nat.lt_or_ge c0 (len+xs.length) with h'|h'
   have:Nat.blt c0 (len+xs.length)=true:=zap h'
   rw[hlt] at this;cases this
   exact h'
  split at h
  cases h
  obtain⟨news,hN,hNc⟩:=(hx hv).src (P:=P) ht'
  have hnn:news=[]:=zah (by simpa using hN.newsLen)
  subst hnn
  have hr:=hop _ hsv _ _ (zio (P:=P) hu hj (by rw[hj1];exact hN) g1)
  rw[zml]
  exact⟨_,_,g,.inl hr,hs,hR⟩
  cases h
  simp only[za0] at hv
  obtain⟨⟨⟨⟨⟨v1,v2⟩,v3⟩,v4⟩,v5⟩,v6⟩:=hv
  exact hplace (hn rfl) (nb v3) (nb v4) (nb v2) (nb v5) (nb v6) v1 (by omega) goc.1
  rw[hlt] at h
  simp only[cond_true,za5] at h
  subst h
  have hlt':c0<len+xs.length:=lb hlt
  simp only[za0,decide_eq_true_eq] at hv
  obtain⟨⟨⟨⟨⟨v1,v2⟩,v3⟩,v4⟩,v6⟩,v7⟩:=hv
  have v6:=lb v6
  have hlen:((items.drop off).take len).length=len:=by simp;omega
  have:=hgrow (hn rfl) ad ((items.drop off).take len) p cap none (by rw[hlen];exact hsv) (hsrc (nb v3) (nb v4) v6) v1 (by rw[hlen];omega) (by rw[hlen];exact v7)
  rw[hlen] at this
  exact this
 cases h
 cases h
end
end Go.Tm
