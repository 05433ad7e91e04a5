/- Texts of the proof. -/
import Derived.Test.YtbedjbhndfbpcaaGreatSeatOnePzf
import Derived.Test.YtbedjbhndfbpcaaGreatSeatOnePp
namespace Go.Proofs
open Go.Tm
set_option linter.unusedSimpArgs false
structure Px where
 acc:Nat->Int->List UInt8->Prop
 told:Int->List UInt8->Prop
 vt:Nat->TVote
 tr:Nat->TAttempt
 mailP:Nat->Int->Int->List UInt8->Prop
 mailA:Int->List UInt8->Prop
 mailT:Nat->Int->Prop
 ch:List UInt8->Prop
def ownB(b:Int):Nat:=(b.tmod 8).toNat
def upd{α:Type}(f:Nat->α)(n:Nat)(v:α):Nat->α:=fun i=>if i=n then v else f i
def zlc(x:Px)(i:Nat)(b p:Int)(v:List UInt8):Prop:=
 b<=(x.vt i).Promised/\(∀c u,x.acc i c u->c<b->c<=p)/\(p≠0->x.acc i p v)
def Safe(ms:List Int)(x:Px)(b:Int)(v:List UInt8):Prop:=
 ∃(Q:List Int) (p:Int),zhg ms Q=true/\(∀i∈Q,b<=(x.vt i.toNat).Promised/\∀c u,x.acc i.toNat c u->c<b->c<=p)/\(p≠0->p<b/\x.told p v)
structure TryOK (ms:List Int) (W:List UInt8->Prop) (x:Px) (n:Nat) (a:TAttempt):Prop where
 own:ownB a.Ballot=n
 pos:0<a.Ballot
 le:a.Ballot<=(x.vt n).Promised
 wish:W a.Wish
 mem:a.Members=ms
 prom:∀p∈a.Promises,zlc x p.Node.toNat a.Ballot p.Ballot p.Value
 acc:∀i∈a.Accepted,∃v,x.acc i.toNat a.Ballot v
 ask:a.Phase=1->∀v,¬x.told a.Ballot v
 tell:a.Phase≠1->x.told a.Ballot a.Value
structure Inv (ms:List Int) (W:List UInt8->Prop) (x:Px):Prop where
 acc:∀i b v,x.acc i b v->x.told b v
 one:∀b v u,x.told b v->x.told b u->v=u
 pos:∀b v,x.told b v->0<b
 top:∀i b v,x.acc i b v->b<=(x.vt i).Ballot
 prom:∀i,(x.vt i).Ballot<=(x.vt i).Promised
 last:∀i,(x.vt i).Ballot≠0->x.acc i (x.vt i).Ballot (x.vt i).Value
 own:∀b v,x.told b v->b<=(x.vt (ownB b)).Promised
 safe:∀b v,x.told b v->Safe ms x b v
 wish:∀b v,x.told b v->W v
 mailP:∀i b p v,x.mailP i b p v->zlc x i b p v
 mailA:∀b v,x.mailA b v->x.told b v
 mailT:∀i b,x.mailT i b->∃v,x.acc i b v
 tries:∀n,(x.tr n).Phase≠0->TryOK ms W x n (x.tr n)
 ch:∀v,x.ch v->∃(b:Int) (Q:List Int),zhg ms Q=true/\x.told b v/\∀i∈Q,x.acc i.toNat b v
theorem ya1v{α:Type}(p q:α->Bool)(l:List α):(l.filter p).length+(l.filter q).length<=l.length+(l.filter fun x=>p x&&q x).length:=by
 induction l with
 |nil=>simp
 |cons y l ih=>
  simp only[List.filter_cons,zak]
  cases p y<;>cases q y<;>simp<;>omega
theorem ya3r{ms Q R:List Int}(h1:zhg ms Q=true)(h2:zhg ms R=true):∃i,i∈Q/\i∈R:=by
 unfold zhg at h1 h2
 have h1:=of_decide_eq_true h1
 have h2:=of_decide_eq_true h2
 have h3:=ya1v (hasI Q) (hasI R) ms
 have h4:0<(ms.filter fun x=>hasI Q x&&hasI R x).length:=by omega
 obtain⟨i,hi⟩:=List.exists_mem_of_length_pos h4
 have h5:=(List.mem_filter.1 hi).2
 rw[za0] at h5
 exact⟨i,by simpa[hasI] using h5.1,by simpa[hasI] using h5.2⟩
theorem Inv.later{ms W x}(h:Inv ms W x){b v}{Q:List Int}(hQ:zhg ms Q=true)(hA:∀i∈Q,x.acc i.toNat b v):∀(k:Nat) (c:Int) u,c.toNat<=k->b<c->x.told c u->u=v:=by
 intro k
 induction k with
 |zero=>
  intro c u hk _ ht
  have:=h.pos c u ht
  omega
 |succ k ih=>
  intro c u hk hbc ht
  obtain⟨R,p,hR,hi,hp⟩:=h.safe c u ht
  obtain⟨i,hiQ,hiR⟩:=ya3r hQ hR
  have ha:=hA i hiQ
  have hb:=h.pos b v (h.acc _ _ _ ha)
  have hbp:=(hi i hiR).2 b v ha hbc
  have hp:=hp (by omega)
  have htb:=h.acc _ _ _ ha
  by_cases e:b=p
  exact h.one p u v hp.2 (e▸htb)
  exact ih p u (by omega) (by omega) hp.2
theorem Inv.chosen{ms W x}(h:Inv ms W x){u v}(hu:x.ch u)(hv:x.ch v):u=v:=by
 obtain⟨b,Q,hQ,hb,hA⟩:=h.ch u hu
 obtain⟨c,R,hR,hc,hB⟩:=h.ch v hv
 rcases Int.lt_trichotomy b c with hlt|rfl|hlt
 exact(h.later hQ hA c.toNat c v (za4 _) hlt hc).symm
 exact h.one b u v hb hc
 exact h.later hR hB b.toNat b u (za4 _) hlt hb
theorem Inv.wished{ms W x}(h:Inv ms W x){u}(hu:x.ch u):W u:=by
 obtain⟨b,Q,_,hb,_⟩:=h.ch u hu
 exact h.wish b u hb
structure Grow (x y:Px):Prop where
 prom:∀i,(x.vt i).Promised<=(y.vt i).Promised
 acc:∀i b v,x.acc i b v->y.acc i b v
 told:∀b v,x.told b v->y.told b v
 new:∀i b v,y.acc i b v->x.acc i b v\/(x.vt i).Promised<=b
theorem Grow.promOK{x y}(g:Grow x y){i b p v}(h:zlc x i b p v):zlc y i b p v:=by
 refine⟨Int.le_trans h.1 (g.prom i),fun c u hc hlt=>?_,fun hp=>g.acc _ _ _ (h.2.2 hp)⟩
 rcases g.new i c u hc with h1|h1
 exact h.2.1 c u h1 hlt
 have:=h.1
 omega
theorem Grow.safe{ms x y}(g:Grow x y){b v}(h:Safe ms x b v):Safe ms y b v:=by
 obtain⟨Q,p,hQ,hi,hp⟩:=h
 refine⟨Q,p,hQ,fun i hq=>⟨Int.le_trans (hi i hq).1 (g.prom _),fun c u hc hlt=>?_⟩,fun h0=>⟨(hp h0).1,g.told _ _ (hp h0).2⟩⟩
 rcases g.new _ c u hc with h1|h1
 exact(hi i hq).2 c u h1 hlt
 have:=(hi i hq).1
 omega
theorem Grow.tryOK{ms W x y}(g:Grow x y){n a}(ht:∀b v,y.told b v->x.told b v)(h:TryOK ms W x n a):TryOK ms W y n a:=
 ⟨h.own,h.pos,Int.le_trans h.le (g.prom n),h.wish,h.mem,fun p hp=>g.promOK (h.prom p hp),fun i hi=>let⟨v,hv⟩:=h.acc i hi;⟨v,g.acc _ _ _ hv⟩,fun e v hv=>h.ask e v (ht _ _ hv),fun e=>g.told _ _ (h.tell e)⟩
theorem Inv.try_{ms W x}(h:Inv ms W x)(n:Nat)(a:TAttempt)(ha:a.Phase≠0->TryOK ms W x n a):Inv ms W {x with tr:=upd x.tr n a} where
 acc:=h.acc
 one:=h.one
 pos:=h.pos
 top:=h.top
 prom:=h.prom
 last:=h.last
 own:=h.own
 safe:=h.safe
 wish:=h.wish
 mailP:=h.mailP
 mailA:=h.mailA
 mailT:=h.mailT
 tries i hi:=by
  by_cases e:i=n
  subst e
  simp only[upd,if_pos] at hi ⊢
  let t:=ha hi
  exact⟨t.own,t.pos,t.le,t.wish,t.mem,t.prom,t.acc,t.ask,t.tell⟩
  simp only[upd,if_neg e] at hi ⊢
  let t:=h.tries i hi
  exact⟨t.own,t.pos,t.le,t.wish,t.mem,t.prom,t.acc,t.ask,t.tell⟩
 ch:=h.ch
theorem Inv.choose{ms W x}(h:Inv ms W x){C:List UInt8->Prop}(hC:∀v,C v->x.ch v\/∃(b:Int) (Q:List Int),zhg ms Q=true/\x.told b v/\∀i∈Q,x.acc i.toNat b v):Inv ms W {x with ch:=C} where
 acc:=h.acc
 one:=h.one
 pos:=h.pos
 top:=h.top
 prom:=h.prom
 last:=h.last
 own:=h.own
 safe:=h.safe
 wish:=h.wish
 mailP:=h.mailP
 mailA:=h.mailA
 mailT:=h.mailT
 tries n hn:=let t:=h.tries n hn;⟨t.own,t.pos,t.le,t.wish,t.mem,t.prom,t.acc,t.ask,t.tell⟩
 ch v hv:=by
  rcases hC v hv with h1|h1
  exact h.ch _ h1
  exact h1
theorem Inv.prepare{ms W x}(h:Inv ms W x)(n:Nat)(b:Int)(hb:(x.vt n).Promised<=b):Inv ms W {x with vt:=upd x.vt n {x.vt n with Promised:=b}}:=by
 have g:Grow x {x with vt:=upd x.vt n {x.vt n with Promised:=b}}:=by
  refine⟨fun i=>?_,fun _ _ _ h=>h,fun _ _ h=>h,fun _ _ _ h=>.inl h⟩
  by_cases e:i=n
  subst e;simp only[upd,if_pos];exact hb
  simp only[upd,if_neg e];exact Int.le_refl _
 have hB:∀i,(upd x.vt n {x.vt n with Promised:=b} i).Ballot=(x.vt i).Ballot/\(upd x.vt n {x.vt n with Promised:=b} i).Value=(x.vt i).Value:=by
  intro i
  by_cases e:i=n
  subst e;simp only[upd,if_pos];exact⟨trivial,trivial⟩
  simp only[upd,if_neg e];exact⟨trivial,trivial⟩
 exact {
     acc:=h.acc,one:=h.one,pos:=h.pos
     top:=fun i c v hc=>(hB i).1.symm▸h.top i c v hc
     prom:=fun i=>(hB i).1.symm▸Int.le_trans (h.prom i) (g.prom i)
     last:=fun i hi=>by
      have e:=hB i
      show x.acc i (upd x.vt n {x.vt n with Promised:=b} i).Ballot (upd x.vt n {x.vt n with Promised:=b} i).Value
      rw[e.1,e.2]
      exact h.last i (fun h0=>hi (e.1.trans h0))
     own:=fun c v hc=>Int.le_trans (h.own c v hc) (g.prom _)
     safe:=fun c v hc=>g.safe (h.safe c v hc)
     wish:=h.wish
     mailP:=fun i c p v hm=>g.promOK (h.mailP i c p v hm)
     mailA:=h.mailA,mailT:=h.mailT
     tries:=fun i hi=>g.tryOK (fun _ _ h=>h) (h.tries i hi)
     ch:=h.ch}
theorem Inv.accept{ms W x}(h:Inv ms W x)(n:Nat)(b:Int)(v:List UInt8)(hb:(x.vt n).Promised<=b)(ht:x.told b v):Inv ms W {x with vt:=upd x.vt n ⟨b,b,v⟩,acc:=fun i c u=>x.acc i c u\/(i=n/\c=b/\u=v)}:=by
 have g:Grow x {x with vt:=upd x.vt n ⟨b,b,v⟩,acc:=fun i c u=>x.acc i c u\/(i=n/\c=b/\u=v)}:=by
  refine⟨fun i=>?_,fun _ _ _ h=>.inl h,fun _ _ h=>h,fun i c u h=>?_⟩
  by_cases e:i=n
  subst e;simp only[upd,if_pos];exact hb
  simp only[upd,if_neg e];exact Int.le_refl _
  rcases h with h|⟨rfl,rfl,rfl⟩
  exact .inl h
  exact .inr hb
 exact {
     acc:=fun i c u hc=>by
      rcases hc with hc|⟨_,rfl,rfl⟩
      exact h.acc _ _ _ hc
      exact ht
     one:=h.one,pos:=h.pos
     top:=fun i c u hc=>by
      by_cases e:i=n
      subst e
      simp only[upd,if_pos]
      rcases hc with hc|⟨_,rfl,rfl⟩
      have:=h.top _ _ _ hc;have:=h.prom i;omega
      exact Int.le_refl _
      simp only[upd,if_neg e]
      rcases hc with hc|⟨rfl,_⟩
      exact h.top _ _ _ hc
      exact absurd rfl e
     prom:=fun i=>by
      by_cases e:i=n
      subst e;simp only[upd,if_pos];exact Int.le_refl _
      simp only[upd,if_neg e];exact h.prom i
     last:=fun i hi=>by
      by_cases e:i=n
      subst e;simp only[upd,if_pos];exact .inr ⟨trivial,trivial,trivial⟩
      simp only[upd,if_neg e] at hi ⊢;exact .inl (h.last i hi)
     own:=fun c u hc=>Int.le_trans (h.own c u hc) (g.prom _)
     safe:=fun c u hc=>g.safe (h.safe c u hc)
     wish:=h.wish
     mailP:=fun i c p u hm=>g.promOK (h.mailP i c p u hm)
     mailA:=h.mailA
     mailT:=fun i c hm=>let⟨u,hu⟩:=h.mailT i c hm;⟨u,.inl hu⟩
     tries:=fun i hi=>g.tryOK (fun _ _ h=>h) (h.tries i hi)
     ch:=fun u hu=>let⟨c,Q,hQ,hc,hA⟩:=h.ch u hu;⟨c,Q,hQ,hc,fun i hi=>.inl (hA i hi)⟩}
theorem Inv.tell{ms W x}(h:Inv ms W x)(n:Nat)(b:Int)(v:List UInt8)(a:TAttempt)(hnt:∀u,¬x.told b u)(hs:Safe ms x b v)(hw:W v)(hv:a.Value=v)(hb:a.Ballot=b)(ha1:a.Phase≠1)(hown:ownB b=n)(hpos:0<b)(hle:b<=(x.vt n).Promised)(hwish:W a.Wish)(hmem:a.Members=ms)(hprom:∀p∈a.Promises,zlc x p.Node.toNat b p.Ballot p.Value)(hacc:∀i∈a.Accepted,∃u,x.acc i.toNat b u):Inv ms W {x with told:=fun c u=>x.told c u\/(c=b/\u=v),tr:=upd x.tr n a}:=by
 have g:Grow x {x with told:=fun c u=>x.told c u\/(c=b/\u=v),tr:=upd x.tr n a}:=⟨fun _=>Int.le_refl _,fun _ _ _ h=>h,fun _ _ h=>.inl h,fun _ _ _ h=>.inl h⟩
 exact {
     acc:=fun i c u hc=>.inl (h.acc i c u hc)
     one:=fun c u t hu ht=>by
      rcases hu with hu|⟨rfl,rfl⟩<;>rcases ht with ht|⟨ht1,ht2⟩
      exact h.one _ _ _ hu ht
      exact absurd (ht1▸hu) (hnt _)
      exact absurd ht (hnt _)
      exact ht2.symm
     pos:=fun c u hc=>by
      rcases hc with hc|⟨rfl,rfl⟩
      exact h.pos _ _ hc
      exact hpos
     top:=h.top,prom:=h.prom,last:=h.last
     own:=fun c u hc=>by
      rcases hc with hc|⟨rfl,rfl⟩
      exact h.own _ _ hc
      show c<=(x.vt (ownB c)).Promised
      rw[hown];exact hle
     safe:=fun c u hc=>by
      rcases hc with hc|⟨rfl,rfl⟩
      exact g.safe (h.safe _ _ hc)
      exact g.safe hs
     wish:=fun c u hc=>by
      rcases hc with hc|⟨rfl,rfl⟩
      exact h.wish _ _ hc
      exact hw
     mailP:=fun i c p u hm=>g.promOK (h.mailP i c p u hm)
     mailA:=fun c u hm=>.inl (h.mailA c u hm)
     mailT:=h.mailT
     tries:=fun i hi=>by
      by_cases e:i=n
      subst e
      simp only[upd,if_pos] at hi ⊢
      subst hb
      exact⟨hown,hpos,hle,hwish,hmem,fun p hp=>g.promOK (hprom p hp),hacc,fun h1=>absurd h1 ha1,fun _=>.inr ⟨rfl,hv⟩⟩
      simp only[upd,if_neg e] at hi ⊢
      have t:=h.tries i hi
      refine⟨t.own,t.pos,t.le,t.wish,t.mem,fun p hp=>g.promOK (t.prom p hp),t.acc,fun h1 u hu=>?_,fun h1=>.inl (t.tell h1)⟩
      rcases hu with hu|⟨hu,_⟩
      exact t.ask h1 u hu
      exact e (t.own.symm.trans ((congrArg ownB hu).trans hown))
     ch:=fun u hu=>let⟨c,Q,hQ,hc,hA⟩:=h.ch u hu;⟨c,Q,hQ,.inl hc,hA⟩}
theorem zu0(l:List TPromise):∀(s:List UInt8) (n:Int),∃p,n<=p/\(∀q∈l,q.Ballot<=p)/\((p=n/\zoc l s n=s)\/(n<p/\∃q∈l,q.Ballot=p/\zoc l s n=q.Value)):=by
 induction l with
 |nil=>exact fun s n=>⟨n,Int.le_refl _,by simp,.inl ⟨rfl,rfl⟩⟩
 |cons y l ih=>
  intro s n
  by_cases e:y.Ballot>n
  obtain⟨p,h1,h2,h3⟩:=ih y.Value y.Ballot
  refine⟨p,by omega,fun q hq=>?_,.inr ⟨by omega,?_⟩⟩
  rcases List.mem_cons.1 hq with rfl|hq
  exact h1
  exact h2 q hq
  rw[zoc,if_pos e]
  rcases h3 with⟨rfl,h3⟩|⟨_,q,hq,h4,h5⟩
  exact⟨y,List.mem_cons_self ..,rfl,h3⟩
  exact⟨q,zaw _ hq,h4,h5⟩
  obtain⟨p,h1,h2,h3⟩:=ih s n
  refine⟨p,h1,fun q hq=>?_,?_⟩
  rcases List.mem_cons.1 hq with rfl|hq
  omega
  exact h2 q hq
  rw[zoc,if_neg e]
  rcases h3 with h3|⟨h0,q,hq,h4⟩
  exact .inl h3
  exact .inr ⟨h0,q,zaw _ hq,h4⟩
theorem Inv.best{ms W x}(h:Inv ms W x)(b:Int)(l:List TPromise)(wish:List UInt8)(hm:zhg ms (l.map TPromise.Node)=true)(hp:∀p∈l,zlc x p.Node.toNat b p.Ballot p.Value)(hy:∀p∈l,MayS p b)(hw:W wish):Safe ms x b (zoc l wish 0)/\W (zoc l wish 0):=by
 obtain⟨p,h1,h2,h3⟩:=zu0 l wish 0
 have hQ:∀i∈l.map TPromise.Node,b<=(x.vt i.toNat).Promised/\∀c u,x.acc i.toNat c u->c<b->c<=p:=by
  intro i hi
  obtain⟨q,hq,rfl⟩:=List.mem_map.1 hi
  have t:=hp q hq
  exact⟨t.1,fun c u hc hlt=>Int.le_trans (t.2.1 c u hc hlt) (h2 q hq)⟩
 rcases h3 with⟨rfl,h3⟩|⟨h0,q,hq,h4,h5⟩
 rw[h3]
 exact⟨⟨_,0,hm,hQ,fun h=>absurd rfl h⟩,hw⟩
 have ha:=(hp q hq).2.2 (by omega)
 have ht:=h.acc _ _ _ ha
 have hb:=hy q hq
 unfold MayS at hb
 rw[if_neg (by omega)] at hb
 rw[h5]
 exact⟨⟨_,p,hm,hQ,fun _=>⟨by omega,h4▸ht⟩⟩,h.wish _ _ ht⟩
end Go.Proofs
namespace Go.Proofs
set_option linter.unusedSimpArgs false
set_option linter.unusedVariables false
def zan(s:TSeat)(k:Nat):TVote:=match s.Votes.find? fun v=>decide (v.Slot=(k:Int)+1) with
 |some v=>v.Vote
 |none=>⟨0,0,[]⟩
structure Emp (x:Px):Prop where
 acc:∀i b v,¬x.acc i b v
 told:∀b v,¬x.told b v
 vt:∀i,x.vt i=⟨0,0,[]⟩
 tr:∀n,(x.tr n).Phase=0
 mailP:∀i b p v,¬x.mailP i b p v
 mailA:∀b v,¬x.mailA b v
 mailT:∀i b,¬x.mailT i b
 ch:∀v,¬x.ch v
theorem Emp.inv{x:Px}(h:Emp x)(ms:List Int)(W:List UInt8->Prop):Inv ms W x where
 acc i b v k:=absurd k (h.acc i b v)
 one b v u k:=absurd k (h.told b v)
 pos b v k:=absurd k (h.told b v)
 top i b v k:=absurd k (h.acc i b v)
 prom i:=by rw[h.vt i];exact Int.le_refl _
 last i k:=by rw[h.vt i] at k;exact absurd rfl k
 own b v k:=absurd k (h.told b v)
 safe b v k:=absurd k (h.told b v)
 wish b v k:=absurd k (h.told b v)
 mailP i b p v k:=absurd k (h.mailP i b p v)
 mailA b v k:=absurd k (h.mailA b v)
 mailT i b k:=absurd k (h.mailT i b)
 tries n k:=absurd (h.tr n) k
 ch v k:=absurd k (h.ch v)
structure Ge (x y:Px):Prop where
 prom:∀i b p v,zlc x i b p v->zlc y i b p v
 told:∀b v,x.told b v->y.told b v
 acc:∀i b v,x.acc i b v->y.acc i b v
 ch:∀v,x.ch v->y.ch v
theorem Ge.refl(x:Px):Ge x x:=⟨fun _ _ _ _ h=>h,fun _ _ h=>h,fun _ _ _ h=>h,fun _ h=>h⟩
theorem Ge.of{x y:Px}(g:Grow x y)(hc:∀v,x.ch v->y.ch v):Ge x y:=⟨fun _ _ _ _ h=>g.promOK h,g.told,g.acc,hc⟩
def Open(S:List TSeat)(k:Nat):Prop:=∃s∈S,k<=s.Log.length
def zc9(m:TMail):Nat:=(m.Slot-1).toNat
structure MailOK (S:List TSeat) (W:List UInt8->Prop) (X:Nat->Px) (m:TMail):Prop where
 op:1<=m.Kind->m.Kind<=6->1<=m.Slot/\Open S (zc9 m)
 k2:m.Kind=2->zlc (X (zc9 m)) m.From.toNat m.Ballot m.Prior m.Value
 k3:m.Kind=3->(X (zc9 m)).told m.Ballot m.Value
 k4:m.Kind=4->∃v,(X (zc9 m)).acc m.From.toNat m.Ballot v
 k6:m.Kind=6->(X (zc9 m)).ch m.Value
 k9:m.Kind=9->W m.Value
variable {mem : TGroup -> List (List UInt8) -> List Int} {g : TGroup} {W : List UInt8 -> Prop}
structure Link (mem:TGroup->List (List UInt8)->List Int) (g:TGroup) (W:List UInt8->Prop) (S:List TSeat) (M:List TMail) (X:Nat->Px) (ms:Nat->List Int):Prop where
 inv:∀k,Inv (ms k) W (X k)
 grp:∀s∈S,s.Group=g
 me:∀s∈S,0<=s.Me/\s.Me<6
 dis:S.Pairwise fun s t=>s.Me≠t.Me
 log:∀s∈S,∀k (h:k<s.Log.length),(X k).ch s.Log[k]
 mems:∀s∈S,∀k,k<=s.Log.length->mem g (s.Log.take k)=ms k
 vt:∀s∈S,∀k,s.Log.length<=k->(X k).vt s.Me.toNat=zan s k
 tr:∀s∈S,(X s.Log.length).tr s.Me.toNat=s.Try
 tr0:∀s∈S,∀k,k≠s.Log.length->((X k).tr s.Me.toNat).Phase=0
 wish:∀s∈S,∀v∈s.Wishes,W v
 mail:∀m∈M,MailOK S W X m
 emp:∀k,¬Open S k->Emp (X k)
theorem Link.agree{S M X ms}(h:Link mem g W S M X ms){s t:TSeat}(hs:s∈S)(ht:t∈S)(k:Nat)(h1:k<s.Log.length)(h2:k<t.Log.length):s.Log[k]=t.Log[k]:=
 (h.inv k).chosen (h.log s hs k h1) (h.log t ht k h2)
theorem Link.takes{S M X ms}(h:Link mem g W S M X ms){s t:TSeat}(hs:s∈S)(ht:t∈S)(n:Nat)(h1:n<=s.Log.length)(h2:n<=t.Log.length):s.Log.take n=t.Log.take n:=by
 apply List.ext_getElem
 simp[List.length_take,Nat.min_eq_left h1,Nat.min_eq_left h2]
 intro k k1 k2
 simp only[List.length_take] at k1 k2
 rw[List.getElem_take,List.getElem_take]
 exact h.agree hs ht k (by omega) (by omega)
theorem Link.wished{S M X ms}(h:Link mem g W S M X ms){s:TSeat}(hs:s∈S)(k:Nat)(h1:k<s.Log.length):W s.Log[k]:=
 (h.inv k).wished (h.log s hs k h1)
theorem zvy{α:Type}{l:List α}{i:Nat}{a x:α}(h:x∈l.set i a):x=a\/∃j,∃hj:j<l.length,j≠i/\x=l[j]:=by
 obtain⟨j,hj,rfl⟩:=List.getElem_of_mem h
 rw[List.length_set] at hj
 rw[List.getElem_set]
 split
 exact .inl rfl
 rename_i e;exact .inr ⟨j,hj,fun h=>e h.symm,rfl⟩
theorem Link.other{S M X ms}(h:Link mem g W S M X ms){i j:Nat}(hi:i<S.length)(hj:j<S.length)(hne:j≠i):S[j].Me.toNat≠S[i].Me.toNat:=by
 have d:=List.pairwise_iff_getElem.1 h.dis
 have a:=h.me S[i] (List.getElem_mem hi)
 have b:=h.me S[j] (List.getElem_mem hj)
 intro e
 rcases Nat.lt_or_gt_of_ne hne with c|c
 exact d j i hj hi c (by omega)
 exact d i j hi hj c (by omega)
theorem ya07{S:List TSeat}{i:Nat}{s':TSeat}(hi:i<S.length)(he:s'.Me=S[i].Me)(h:S.Pairwise fun s t=>s.Me≠t.Me):(S.set i s').Pairwise fun s t=>s.Me≠t.Me:=by
 have hm:∀j (hj:j<(S.set i s').length),((S.set i s')[j]).Me=(S[j]'(by simpa using hj)).Me:=by
  intro j hj
  rw[List.getElem_set]
  split
  rename_i e;subst e;exact he
  rfl
 rw[List.pairwise_iff_getElem] at h ⊢
 intro a b ha hb hab
 rw[hm,hm]
 exact h a b _ _ hab
theorem zjx{S:List TSeat}{i:Nat}{s':TSeat}(hi:i<S.length)(he:S[i].Log.length<=s'.Log.length){k:Nat}(h:Open S k):Open (S.set i s') k:=by
 obtain⟨s,hs,hk⟩:=h
 obtain⟨j,hj,rfl⟩:=List.getElem_of_mem hs
 by_cases e:j=i
 subst e
 exact⟨s',List.mem_iff_getElem.2 ⟨j,by simpa using hj,by simp⟩,by omega⟩
 exact⟨S[j],List.mem_iff_getElem.2 ⟨j,by simpa using hj,by rw[List.getElem_set,if_neg (fun h=>e h.symm)]⟩,hk⟩
theorem Link.mails{S M X ms}(h:Link mem g W S M X ms){M':List TMail}(hM:∀m∈M',m∈M\/MailOK S W X m):Link mem g W S M' X ms:=
 {h with mail:=fun m hm=>(hM m hm).elim (h.mail m) id}
theorem Inv.more{ms W W' x}(h:Inv ms W x)(hw:∀v,W v->W' v):Inv ms W' x:=
 {h with wish:=fun b v k=>hw v (h.wish b v k),tries:=fun n k=>let t:=h.tries n k;{t with wish:=hw _ t.wish}}
theorem Link.more{S M X ms}{W':List UInt8->Prop}(h:Link mem g W S M X ms)(hw:∀v,W v->W' v):Link mem g W' S M X ms:=
 {h with inv:=fun k=>(h.inv k).more hw,wish:=fun s hs v hv=>hw v (h.wish s hs v hv),mail:=fun m hm=>let k:=h.mail m hm;{k with k9:=fun e=>hw _ (k.k9 e)}}
theorem Link.turn{S M X ms}(h:Link mem g W S M X ms){i:Nat}(hi:i<S.length){s':TSeat}{k:Nat}{x':Px}(hme:s'.Me=S[i].Me)(hg:s'.Group=S[i].Group)(hlog:s'.Log=S[i].Log)(hop:Open S k)
  (hinv:Inv (ms k) W x') (hge:Ge (X k) x') (hvo:∀n,n≠s'.Me.toNat->x'.vt n=(X k).vt n) (hto:∀n,n≠s'.Me.toNat->x'.tr n=(X k).tr n)
  (hv:S[i].Log.length<=k->x'.vt s'.Me.toNat=zan s' k) (hv':∀j,j≠k->S[i].Log.length<=j->zan s' j=zan S[i] j)
  (ht:k=S[i].Log.length->x'.tr s'.Me.toNat=s'.Try) (ht':k≠S[i].Log.length->s'.Try=S[i].Try/\(x'.tr s'.Me.toNat).Phase=0) (hw:∀v∈s'.Wishes,W v):
  Link mem g W (S.set i s') M (upd X k x') ms:=by
 have hX:∀j,Ge (X j) (upd X k x' j):=by
  intro j
  unfold upd
  split
  rename_i e;rw[e];exact hge
  exact Ge.refl _
 have hS:S[i]∈S:=List.getElem_mem hi
 have others:∀s∈S.set i s',s=s'\/∃j,∃hj:j<S.length,s=S[j]/\S[j].Me.toNat≠s'.Me.toNat:=by
  intro s hs
  rcases zvy hs with rfl|⟨j,hj,hne,rfl⟩
  exact .inl rfl
  exact .inr ⟨j,hj,rfl,by rw[hme];exact h.other hi hj hne⟩
 have xvt:∀j n,n≠s'.Me.toNat->(upd X k x' j).vt n=(X j).vt n:=by
  intro j n hn
  unfold upd
  split
  rename_i e;rw[e];exact hvo n hn
  rfl
 have xtr:∀j n,n≠s'.Me.toNat->(upd X k x' j).tr n=(X j).tr n:=by
  intro j n hn
  unfold upd
  split
  rename_i e;rw[e];exact hto n hn
  rfl
 refine⟨fun j=>?_,fun s hs=>?_,fun s hs=>?_,ya07 hi hme h.dis,fun s hs j hj=>?_,fun s hs j hj=>?_,fun s hs j hj=>?_,fun s hs=>?_,fun s hs j hj=>?_,fun s hs u hu=>?_,fun m hm=>?_,fun j hj=>?_⟩
 unfold upd
 split
 rename_i e;rw[e];exact hinv
 exact h.inv j
 rcases others s hs with rfl|⟨j,hj,rfl,_⟩
 rw[hg];exact h.grp _ hS
 exact h.grp _ (List.getElem_mem hj)
 rcases others s hs with rfl|⟨j,hj,rfl,_⟩
 rw[hme];exact h.me _ hS
 exact h.me _ (List.getElem_mem hj)
 rcases others s hs with rfl|⟨a,ha,rfl,_⟩
 have hj':j<S[i].Log.length:=by rw[<-hlog];exact hj
 have:=h.log _ hS j hj'
 simp only[hlog]
 exact(hX j).ch _ this
 exact(hX j).ch _ (h.log _ (List.getElem_mem ha) j hj)
 rcases others s hs with rfl|⟨a,ha,rfl,_⟩
 rw[hlog];exact h.mems _ hS j (by rw[<-hlog];exact hj)
 exact h.mems _ (List.getElem_mem ha) j hj
 rcases others s hs with rfl|⟨a,ha,rfl,hn⟩
 rw[hlog] at hj
 by_cases e:j=k
 subst e
 simp only[upd,if_pos]
 exact hv hj
 simp only[upd,if_neg e]
 rw[hv' j e hj,hme]
 exact h.vt _ hS j hj
 rw[xvt j _ hn]
 exact h.vt _ (List.getElem_mem ha) j hj
 rcases others s hs with rfl|⟨a,ha,rfl,hn⟩
 rw[hlog]
 by_cases e:k=S[i].Log.length
 rw[<-e]
 simp only[upd,if_pos]
 exact ht e
 simp only[upd,if_neg (Ne.symm e)]
 rw[(ht' e).1,hme]
 exact h.tr _ hS
 rw[xtr _ _ hn]
 exact h.tr _ (List.getElem_mem ha)
 rcases others s hs with rfl|⟨a,ha,rfl,hn⟩
 rw[hlog] at hj
 by_cases e:j=k
 subst e
 simp only[upd,if_pos]
 exact(ht' hj).2
 simp only[upd,if_neg e]
 rw[hme]
 exact h.tr0 _ hS j hj
 rw[xtr _ _ hn]
 exact h.tr0 _ (List.getElem_mem ha) j hj
 rcases others s hs with rfl|⟨a,ha,rfl,hn⟩
 exact hw u hu
 exact h.wish _ (List.getElem_mem ha) u hu
 have mo:=h.mail m hm
 refine⟨fun a b=>⟨(mo.op a b).1,zjx hi (by rw[hlog];exact za4 _) (mo.op a b).2⟩,fun e=>(hX _).prom _ _ _ _ (mo.k2 e),fun e=>(hX _).told _ _ (mo.k3 e),fun e=>let⟨v,hv⟩:=mo.k4 e;⟨v,(hX _).acc _ _ _ hv⟩,fun e=>(hX _).ch _ (mo.k6 e),mo.k9⟩
 have hno:¬Open S j:=fun o=>hj (zjx hi (by rw[hlog];exact za4 _) o)
 have:j≠k:=fun e=>hno (e▸hop)
 simp only[upd,if_neg this]
 exact h.emp j hno
end Go.Proofs
namespace Go.Proofs
set_option linter.unusedSimpArgs false
set_option linter.unusedVariables false
open Classical
variable {mem : TGroup -> List (List UInt8) -> List Int} {g : TGroup} {W : List UInt8 -> Prop} {S : List TSeat} {M : List TMail} {X : Nat -> Px} {ms : Nat -> List Int}
def GeX(X Y:Nat->Px):Prop:=∀k,Ge (X k) (Y k)
theorem Ge.trans{x y z:Px}(a:Ge x y)(b:Ge y z):Ge x z:=⟨fun _ _ _ _ h=>b.prom _ _ _ _ (a.prom _ _ _ _ h),fun _ _ h=>b.told _ _ (a.told _ _ h),fun _ _ _ h=>b.acc _ _ _ (a.acc _ _ _ h),fun _ h=>b.ch _ (a.ch _ h)⟩
theorem GeX.trans{X Y Z:Nat->Px}(a:GeX X Y)(b:GeX Y Z):GeX X Z:=fun k=>(a k).trans (b k)
theorem GeX.upd{X:Nat->Px}{k:Nat}{x':Px}(h:Ge (X k) x'):GeX X (Go.Proofs.upd X k x'):=by
 intro j
 unfold Go.Proofs.upd
 split
 rename_i e;rw[e];exact h
 exact Ge.refl _
theorem Ge.tr(x:Px)(f:Nat->TAttempt):Ge x {x with tr:=f}:=⟨fun _ _ _ _ h=>h,fun _ _ h=>h,fun _ _ _ h=>h,fun _ h=>h⟩
theorem zjq{α:Type}(f:Nat->α){n i:Nat}(v:α)(h:i≠n):Go.Proofs.upd f n v i=f i:=by unfold Go.Proofs.upd;rw[if_neg h]
theorem zj4{α:Type}(f:Nat->α)(n:Nat)(v:α):Go.Proofs.upd f n v n=v:=by unfold Go.Proofs.upd;rw[if_pos rfl]
theorem Link.openS(h:Link mem g W S M X ms){i:Nat}(hi:i<S.length):Open S S[i].Log.length:=⟨S[i],List.getElem_mem hi,za4 _⟩
theorem Link.rest(h:Link mem g W S M X ms){i:Nat}(hi:i<S.length){s':TSeat}(hme:s'.Me=S[i].Me)(hg:s'.Group=S[i].Group)(hlog:s'.Log=S[i].Log)(hv:s'.Votes=S[i].Votes)(ht:s'.Try=S[i].Try)(hw:∀v∈s'.Wishes,W v):Link mem g W (S.set i s') M X ms:=by
 have e:∀j,zan s' j=zan S[i] j:=fun j=>by unfold zan;rw[hv]
 have hS:S[i]∈S:=List.getElem_mem hi
 have t:=h.turn (k:=S[i].Log.length) (x':=X S[i].Log.length) hi hme hg hlog (h.openS hi) (h.inv _) (Ge.refl _) (fun _ _=>rfl) (fun _ _=>rfl) (fun _=>by rw[e,hme];exact h.vt _ hS _ (za4 _)) (fun j _ _=>e j) (fun _=>by rw[ht,hme];exact h.tr _ hS) (fun k=>absurd rfl k) hw
 have eX:Go.Proofs.upd X S[i].Log.length (X S[i].Log.length)=X:=by
  funext j
  unfold Go.Proofs.upd
  split
  rename_i e;rw[e]
  rfl
 rw[eX] at t
 exact t
theorem Link.try_(h:Link mem g W S M X ms){i:Nat}(hi:i<S.length){s':TSeat}(hme:s'.Me=S[i].Me)(hg:s'.Group=S[i].Group)(hlog:s'.Log=S[i].Log)(hv:s'.Votes=S[i].Votes)(hw:∀v∈s'.Wishes,W v)
  (ht:s'.Try.Phase≠0->TryOK (ms S[i].Log.length) W (X S[i].Log.length) S[i].Me.toNat s'.Try):∃Y,Link mem g W (S.set i s') M Y ms/\GeX X Y/\(∀b v,(Y S[i].Log.length).told b v↔(X S[i].Log.length).told b v):=by
 have e:∀j,zan s' j=zan S[i] j:=fun j=>by unfold zan;rw[hv]
 have hS:S[i]∈S:=List.getElem_mem hi
 have gx:Ge (X S[i].Log.length) {X S[i].Log.length with tr:=Go.Proofs.upd (X S[i].Log.length).tr S[i].Me.toNat s'.Try}:=Ge.tr _ _
 refine⟨_,h.turn (k:=S[i].Log.length) hi hme hg hlog (h.openS hi) ((h.inv _).try_ S[i].Me.toNat s'.Try ht) gx (fun _ _=>rfl) (fun n hn=>zjq _ _ (by rw[<-hme];exact hn)) (fun _=>by rw[e,hme];exact h.vt _ hS _ (za4 _)) (fun j _ _=>e j) (fun _=>by rw[hme];exact zj4 _ _ _) (fun k=>absurd rfl k) hw,GeX.upd gx,fun b v=>?_⟩
 rw[zj4]
theorem Link.promOK(h:Link mem g W S M X ms){s:TSeat}(hs:s∈S){k:Nat}(hk:s.Log.length<=k){b:Int}(hb:b<=(zan s k).Promised):zlc (X k) s.Me.toNat b (zan s k).Ballot (zan s k).Value:=by
 have e:=h.vt s hs k hk
 refine⟨by rw[e];exact hb,fun c u hc _=>?_,fun hp=>?_⟩
 rw[<-e];exact(h.inv k).top _ _ _ hc
 rw[<-e] at hp ⊢;exact(h.inv k).last _ hp
theorem Link.prepare(h:Link mem g W S M X ms){i:Nat}(hi:i<S.length){s':TSeat}{k:Nat}{b:Int}(hme:s'.Me=S[i].Me)(hg:s'.Group=S[i].Group)(hlog:s'.Log=S[i].Log)(ht:s'.Try=S[i].Try)(hw:∀v∈s'.Wishes,W v)
  (hop:Open S k) (hk:S[i].Log.length<=k) (hb:(zan S[i] k).Promised<=b) (hv:zan s' k={zan S[i] k with Promised:=b}) (hv':∀j,j≠k->zan s' j=zan S[i] j):
  ∃Y,Link mem g W (S.set i s') M Y ms/\GeX X Y/\(∀j b v,(Y j).told b v↔(X j).told b v):=by
 have hS:S[i]∈S:=List.getElem_mem hi
 have e:=h.vt _ hS k hk
 have i1:=(h.inv k).prepare S[i].Me.toNat b (by rw[e];exact hb)
 have g1:Grow (X k) {X k with vt:=Go.Proofs.upd (X k).vt S[i].Me.toNat {(X k).vt S[i].Me.toNat with Promised:=b}}:=by
  refine⟨fun j=>?_,fun _ _ _ h=>h,fun _ _ h=>h,fun _ _ _ h=>.inl h⟩
  by_cases c:j=S[i].Me.toNat
  rw[c];show _<=TVote.Promised (Go.Proofs.upd _ _ _ _);rw[zj4,e];exact hb
  show _<=TVote.Promised (Go.Proofs.upd _ _ _ _);rw[zjq _ _ c];exact Int.le_refl _
 have gx:=Ge.of g1 (fun _ h=>h)
 refine⟨_,h.turn (k:=k) hi hme hg hlog hop i1 gx (fun n hn=>zjq _ _ (by rw[<-hme];exact hn)) (fun _ _=>rfl) (fun _=>?_) (fun j hj _=>hv' j hj) (fun c=>?_) (fun c=>⟨ht,?_⟩) hw,GeX.upd gx,fun j b v=>?_⟩
 show Go.Proofs.upd _ _ _ _=_
 rw[hme,zj4,e,hv]
 show(X k).tr _=_
 rw[ht,hme,c];exact h.tr _ hS
 show((X k).tr _).Phase=0
 rw[hme];exact h.tr0 _ hS k c
 by_cases c:j=k
 rw[c,zj4]
 rw[zjq _ _ c]
theorem Link.accept(h:Link mem g W S M X ms){i:Nat}(hi:i<S.length){s':TSeat}{k:Nat}{b:Int}{v:List UInt8}(hme:s'.Me=S[i].Me)(hg:s'.Group=S[i].Group)(hlog:s'.Log=S[i].Log)(ht:s'.Try=S[i].Try)(hw:∀v∈s'.Wishes,W v)
  (hop:Open S k) (hk:S[i].Log.length<=k) (hb:(zan S[i] k).Promised<=b) (htold:(X k).told b v) (hv:zan s' k=⟨b,b,v⟩) (hv':∀j,j≠k->zan s' j=zan S[i] j):
  ∃Y,Link mem g W (S.set i s') M Y ms/\GeX X Y/\(Y k).acc S[i].Me.toNat b v:=by
 have hS:S[i]∈S:=List.getElem_mem hi
 have e:=h.vt _ hS k hk
 have i1:=(h.inv k).accept S[i].Me.toNat b v (by rw[e];exact hb) htold
 have g1:Grow (X k) {X k with vt:=Go.Proofs.upd (X k).vt S[i].Me.toNat ⟨b,b,v⟩,acc:=fun i' c u=>(X k).acc i' c u\/(i'=S[i].Me.toNat/\c=b/\u=v)}:=by
  refine⟨fun j=>?_,fun _ _ _ h=>.inl h,fun _ _ h=>h,fun j c u h=>?_⟩
  by_cases c:j=S[i].Me.toNat
  rw[c];show _<=TVote.Promised (Go.Proofs.upd _ _ _ _);rw[zj4,e];exact hb
  show _<=TVote.Promised (Go.Proofs.upd _ _ _ _);rw[zjq _ _ c];exact Int.le_refl _
  rcases h with h|⟨rfl,rfl,rfl⟩
  exact .inl h
  exact .inr (by rw[e];exact hb)
 have gx:=Ge.of g1 (fun _ h=>h)
 refine⟨_,h.turn (k:=k) hi hme hg hlog hop i1 gx (fun n hn=>zjq _ _ (by rw[<-hme];exact hn)) (fun _ _=>rfl) (fun _=>?_) (fun j hj _=>hv' j hj) (fun c=>?_) (fun c=>⟨ht,?_⟩) hw,GeX.upd gx,?_⟩
 show Go.Proofs.upd _ _ _ _=_
 rw[hme,zj4,hv]
 show(X k).tr _=_
 rw[ht,hme,c];exact h.tr _ hS
 show((X k).tr _).Phase=0
 rw[hme];exact h.tr0 _ hS k c
 rw[zj4];exact .inr ⟨rfl,rfl,rfl⟩
theorem Link.choose(h:Link mem g W S M X ms){k:Nat}{v:List UInt8}(hop:Open S k)(hc:∃(b:Int) (Q:List Int),zhg (ms k) Q=true/\(X k).told b v/\∀i∈Q,(X k).acc i.toNat b v):∃Y,Link mem g W S M Y ms/\GeX X Y/\(Y k).ch v:=by
 have i1:=(h.inv k).choose (C:=fun u=>(X k).ch u\/u=v) (fun u hu=>hu.elim .inl fun e=>.inr (e▸hc))
 have gx:Ge (X k) {X k with ch:=fun u=>(X k).ch u\/u=v}:=⟨fun _ _ _ _ h=>h,fun _ _ h=>h,fun _ _ _ h=>h,fun _ h=>.inl h⟩
 have G:=GeX.upd (X:=X) (k:=k) gx
 have sv:∀j n,(Go.Proofs.upd X k {X k with ch:=fun u=>(X k).ch u\/u=v} j).vt n=(X j).vt n/\(Go.Proofs.upd X k {X k with ch:=fun u=>(X k).ch u\/u=v} j).tr n=(X j).tr n:=by
  intro j n
  by_cases c:j=k
  rw[c,zj4];exact⟨rfl,rfl⟩
  rw[zjq _ _ c];exact⟨rfl,rfl⟩
 refine⟨_,⟨fun j=>?_,h.grp,h.me,h.dis,fun s hs j hj=>(G j).ch _ (h.log s hs j hj),h.mems,fun s hs j hj=>(sv j _).1.trans (h.vt s hs j hj),fun s hs=>(sv _ _).2.trans (h.tr s hs),fun s hs j hj=>by rw[(sv j _).2];exact h.tr0 s hs j hj,h.wish,fun m hm=>?_,fun j hj=>?_⟩,G,?_⟩
 by_cases c:j=k
 rw[c,zj4];exact i1
 rw[zjq _ _ c];exact h.inv j
 have mo:=h.mail m hm
 exact⟨mo.op,fun e=>(G _).prom _ _ _ _ (mo.k2 e),fun e=>(G _).told _ _ (mo.k3 e),fun e=>let⟨v,hv⟩:=mo.k4 e;⟨v,(G _).acc _ _ _ hv⟩,fun e=>(G _).ch _ (mo.k6 e),mo.k9⟩
 rw[zjq _ _ (fun c:j=k=>hj (by rw[c];exact hop))];exact h.emp j hj
 rw[zj4];exact .inr rfl
theorem Link.learn(h:Link mem g W S M X ms){i:Nat}(hi:i<S.length){s':TSeat}{v:List UInt8}(hme:s'.Me=S[i].Me)(hg:s'.Group=S[i].Group)(hlog:s'.Log=S[i].Log++[v])(hch:(X S[i].Log.length).ch v)(ht:s'.Try.Phase=0)
  (hv:∀j,S[i].Log.length<j->zan s' j=zan S[i] j) (hw:∀v∈s'.Wishes,W v):∃Y ms',Link mem g W (S.set i s') M Y ms'/\GeX X Y:=by
 have hS:S[i]∈S:=List.getElem_mem hi
 generalize hn:S[i].Log.length=n at hch hv
 have hlen:s'.Log.length=n+1:=by rw[hlog,zaq,hn];rfl
 -- the histories: the try of this slot is let go, none stands in the next one
 let x0:Px:={X n with tr:=Go.Proofs.upd (X n).tr S[i].Me.toNat ⟨0,0,[],[],[],[],[]⟩}
 let x1:Px:={X (n+1) with tr:=Go.Proofs.upd (X (n+1)).tr S[i].Me.toNat s'.Try}
 let Y:Nat->Px:=Go.Proofs.upd (Go.Proofs.upd X n x0) (n+1) x1
 have Yn:Y n=x0:=by show Go.Proofs.upd _ _ _ _=_;rw[zjq _ _ (by omega),zj4]
 have Y1:Y (n+1)=x1:=zj4 _ _ _
 have Yo:∀j,j≠n->j≠n+1->Y j=X j:=fun j a b=>by show Go.Proofs.upd _ _ _ _=_;rw[zjq _ _ b,zjq _ _ a]
 have G:GeX X Y:=by
  intro j
  by_cases a:j=n
  rw[a,Yn];exact Ge.tr _ _
  by_cases b:j=n+1
  rw[b,Y1];exact Ge.tr _ _
  rw[Yo j a b];exact Ge.refl _
 have Yvt:∀j m,(Y j).vt m=(X j).vt m:=by
  intro j m
  by_cases a:j=n
  rw[a,Yn]
  by_cases b:j=n+1
  rw[b,Y1]
  rw[Yo j a b]
 have Ytr:∀j m,m≠S[i].Me.toNat->(Y j).tr m=(X j).tr m:=by
  intro j m hm
  by_cases a:j=n
  rw[a,Yn];exact zjq _ _ hm
  by_cases b:j=n+1
  rw[b,Y1];exact zjq _ _ hm
  rw[Yo j a b]
 -- members of the slot behind
 let ms':Nat->List Int:=fun j=>if j=n+1/\¬Open S (n+1) then mem g s'.Log else ms j
 have others:∀s∈S.set i s',s=s'\/∃j,∃hj:j<S.length,s=S[j]/\S[j].Me.toNat≠S[i].Me.toNat:=by
  intro s hs
  rcases zvy hs with rfl|⟨j,hj,hne,rfl⟩
  exact .inl rfl
  exact .inr ⟨j,hj,rfl,h.other hi hj hne⟩
 have mOpen:∀k,Open S k->ms' k=ms k:=by
  intro k hk
  show(if _ then _ else _)=_
  rw[if_neg]
  rintro⟨rfl,hno⟩
  exact hno hk
 refine⟨Y,ms',⟨fun j=>?_,fun s hs=>?_,fun s hs=>?_,ya07 hi hme h.dis,fun s hs j hj=>?_,fun s hs j hj=>?_,fun s hs j hj=>?_,fun s hs=>?_,fun s hs j hj=>?_,fun s hs u hu=>?_,fun m hm=>?_,fun j hj=>?_⟩,G⟩
 by_cases a:j=n
 rw[a,Yn,mOpen n (hn▸h.openS hi)]
 exact(h.inv n).try_ _ _ fun k=>absurd rfl k
 by_cases b:j=n+1
 rw[b,Y1]
 by_cases o:Open S (n+1)
 rw[mOpen _ o]
 exact(h.inv (n+1)).try_ _ _ fun k=>absurd ht k
 have E:=h.emp (n+1) o
 have E':Emp x1:=⟨E.acc,E.told,E.vt,fun m=>by
  show TAttempt.Phase (Go.Proofs.upd _ _ _ _)=0
  by_cases c:m=S[i].Me.toNat
  rw[c,zj4];exact ht
  rw[zjq _ _ c];exact E.tr m,E.mailP,E.mailA,E.mailT,E.ch⟩
 exact E'.inv _ _
 rw[Yo j a b]
 have:ms' j=ms j:=by show(if _ then _ else _)=_;rw[if_neg (fun c=>b c.1)]
 rw[this];exact h.inv j
 rcases others s hs with rfl|⟨j,hj,rfl,_⟩
 rw[hg];exact h.grp _ hS
 exact h.grp _ (List.getElem_mem hj)
 rcases others s hs with rfl|⟨j,hj,rfl,_⟩
 rw[hme];exact h.me _ hS
 exact h.me _ (List.getElem_mem hj)
 rcases others s hs with rfl|⟨a,ha,rfl,_⟩
 refine(G j).ch _ ?_
 simp only[hlog]
 by_cases c:j<n
 rw[List.getElem_append_left (by omega)]
 exact h.log _ hS j (by omega)
 have:j=n:=by omega
 subst this
 rw[List.getElem_append_right (by omega)]
 simpa using hch
 exact(G j).ch _ (h.log _ (List.getElem_mem ha) j hj)
 rcases others s hs with rfl|⟨a,ha,rfl,_⟩
 by_cases c:j<=n
 rw[hlog,List.take_append_of_le_length (by omega),mOpen j ⟨S[i],hS,by omega⟩]
 exact h.mems _ hS j (by omega)
 have hj1:j=n+1:=by omega
 subst hj1
 rw[List.take_of_length_le (by omega)]
 by_cases o:Open S (n+1)
 rw[mOpen _ o]
 obtain⟨t,hT,hl⟩:=o
 have e1:=h.mems t hT (n+1) hl
 have e2:=h.takes hS hT n (by omega) (by omega)
 have e3:t.Log[n]=v:=(h.inv n).chosen (h.log t hT n (by omega)) hch
 have e4:t.Log.take (n+1)=s.Log:=by
  rw[List.take_add_one,<-e2,List.take_of_length_le (by omega),hlog]
  simp[List.getElem?_eq_getElem (show n<t.Log.length by omega),e3]
 rw[<-e1,e4]
 show _=(if _ then _ else _)
 rw[if_pos ⟨rfl,o⟩]
 rw[mOpen j ⟨S[a],List.getElem_mem ha,hj⟩]
 exact h.mems _ (List.getElem_mem ha) j hj
 rcases others s hs with rfl|⟨a,ha,rfl,_⟩
 rw[Yvt,hme,h.vt _ hS j (by omega),hv j (by omega)]
 rw[Yvt];exact h.vt _ (List.getElem_mem ha) j hj
 rcases others s hs with rfl|⟨a,ha,rfl,hne⟩
 rw[hlen,Y1,hme];exact zj4 _ _ _
 rw[Ytr _ _ hne];exact h.tr _ (List.getElem_mem ha)
 rcases others s hs with rfl|⟨a,ha,rfl,hne⟩
 rw[hlen] at hj
 rw[hme]
 by_cases c:j=n
 rw[c,Yn];show TAttempt.Phase (Go.Proofs.upd _ _ _ _)=0;rw[zj4]
 rw[Yo j c hj];exact h.tr0 _ hS j (by omega)
 rw[Ytr _ _ hne];exact h.tr0 _ (List.getElem_mem ha) j hj
 rcases others s hs with rfl|⟨a,ha,rfl,_⟩
 exact hw u hu
 exact h.wish _ (List.getElem_mem ha) u hu
 have mo:=h.mail m hm
 exact⟨fun a b=>⟨(mo.op a b).1,zjx hi (by omega) (mo.op a b).2⟩,fun e=>(G _).prom _ _ _ _ (mo.k2 e),fun e=>(G _).told _ _ (mo.k3 e),fun e=>let⟨v,hv⟩:=mo.k4 e;⟨v,(G _).acc _ _ _ hv⟩,fun e=>(G _).ch _ (mo.k6 e),mo.k9⟩
 have s'in:s'∈S.set i s':=List.mem_iff_getElem.2 ⟨i,by simpa using hi,by simp⟩
 have o1:Open (S.set i s') (n+1):=⟨s',s'in,by omega⟩
 have o0:Open (S.set i s') n:=⟨s',s'in,by omega⟩
 rw[Yo j (fun c=>hj (c▸o0)) (fun c=>hj (c▸o1))]
 exact h.emp j fun o=>hj (zjx hi (by omega) o)
end Go.Proofs
namespace Go.Proofs
set_option linter.unusedSimpArgs false
set_option linter.unusedVariables false
variable {mem : TGroup -> List (List UInt8) -> List Int} {g : TGroup} {W : List UInt8 -> Prop} {S : List TSeat} {M : List TMail} {X : Nat -> Px} {ms : Nat -> List Int}
theorem zrc{a:TAttempt}{p:TPromise}(x:TPromise)(hx:x∈(zad a p).Promises):x=p\/x∈a.Promises:=by
 unfold zad zy9 at hx
 split at hx
 exact .inr hx
 split at hx
 exact(zt0 _ p x _).1 hx
 exact(zt0 _ p x _).1 hx
theorem zht(a:TAttempt)(p:TPromise):(zad a p).Ballot=a.Ballot/\(zad a p).Members=a.Members/\(zad a p).Wish=a.Wish/\(zad a p).Accepted=a.Accepted:=by
 unfold zad zy9
 split
 exact⟨rfl,rfl,rfl,rfl⟩
 split<;>exact⟨rfl,rfl,rfl,rfl⟩
theorem Link.begin_(h:Link mem g W S M X ms){i:Nat}(hi:i<S.length){s':TSeat}{b:Int}{v:List UInt8}(hme:s'.Me=S[i].Me)(hg:s'.Group=S[i].Group)(hlog:s'.Log=S[i].Log)(hw:∀v∈s'.Wishes,W v)
  (hb0:0<b) (hown:ownB b=S[i].Me.toNat) (hb:(zan S[i] S[i].Log.length).Promised<b) (hv:zan s' S[i].Log.length={zan S[i] S[i].Log.length with Promised:=b}) (hv':∀j,j≠S[i].Log.length->zan s' j=zan S[i] j)
  (ht:s'.Try=⟨1,b,mem g S[i].Log,v,[],[],[]⟩) (hW:W v):∃Y,Link mem g W (S.set i s') M Y ms/\GeX X Y:=by
 have hS:S[i]∈S:=List.getElem_mem hi
 have e:=h.vt _ hS _ (za4 _)
 have hnew:∀u,¬(X S[i].Log.length).told b u:=by
  intro u hu
  have h1:=(h.inv _).own b u hu
  rw[hown,e] at h1
  omega
 -- the vote first
 let s1:TSeat:={s' with Try:=S[i].Try}
 obtain⟨Y,h1,g1,t1⟩:=h.prepare (s':=s1) (k:=S[i].Log.length) (b:=b) hi hme hg hlog rfl hw (h.openS hi) (za4 _) (Int.le_of_lt hb) hv hv'
 have l1:i<(S.set i s1).length:=by simpa using hi
 have e1:(S.set i s1)[i]=s1:=by simp
 obtain⟨Z,h2,g2,_⟩:=h1.try_ (s':=s') l1 (by rw[e1]) (by rw[e1]) (by rw[e1]) (by rw[e1]) hw (fun _=>by
  rw[e1]
  have el:s1.Log.length=S[i].Log.length:=by show s'.Log.length=_;rw[hlog]
  have em:s1.Me.toNat=S[i].Me.toNat:=by show s'.Me.toNat=_;rw[hme]
  have ev:=h1.vt s1 (List.mem_iff_getElem.2 ⟨i,l1,e1⟩) S[i].Log.length (Nat.le_of_eq el)
  have ev2:(zan s1 S[i].Log.length).Promised=b:=by show(zan s' _).Promised=b;rw[hv]
  rw[el,em] at*
  rw[ht]
  have hm:=h.mems _ hS S[i].Log.length (za4 _)
  rw[List.take_of_length_le (za4 _)] at hm
  exact⟨hown,hb0,by rw[ev,ev2];exact Int.le_refl _,hW,hm,fun p hp=>absurd hp (by simp),fun i hi=>absurd hi (by simp),fun _ u hu=>hnew u ((t1 _ _ _).1 hu),fun h=>absurd rfl h⟩)
 rw[List.set_set] at h2
 exact⟨Z,h2,g1.trans g2⟩
theorem Link.promised(h:Link mem g W S M X ms){i:Nat}(hi:i<S.length){s':TSeat}{b:Int}{p:TPromise}(hme:s'.Me=S[i].Me)(hg:s'.Group=S[i].Group)(hlog:s'.Log=S[i].Log)(hvt:s'.Votes=S[i].Votes)(hw:∀v∈s'.Wishes,W v)
  (hc:CanP S[i].Try b p) (hp:zlc (X S[i].Log.length) p.Node.toNat b p.Ballot p.Value) (ht:s'.Try=zad S[i].Try p):
  ∃Y,Link mem g W (S.set i s') M Y ms/\GeX X Y/\((zad S[i].Try p).Phase=1\/(Y S[i].Log.length).told b (zad S[i].Try p).Value):=by
 have hS:S[i]∈S:=List.getElem_mem hi
 obtain⟨hv,h1,hb,hpm,hmay⟩:=hc
 have etr:=h.tr _ hS
 have hph:S[i].Try.Phase≠0:=by omega
 have t:TryOK (ms S[i].Log.length) W (X S[i].Log.length) S[i].Me.toNat S[i].Try:=by
  have:=(h.inv S[i].Log.length).tries S[i].Me.toNat (by rw[etr];exact hph)
  rw[etr] at this;exact this
 have hk:=zmb (a:=S[i].Try) (p:=p) ⟨hv,h1,rfl,hpm,hb▸hmay⟩
 obtain⟨e1,e2,e3,e4⟩:=zht S[i].Try p
 have hprom:∀q∈(zad S[i].Try p).Promises,zlc (X S[i].Log.length) q.Node.toNat b q.Ballot q.Value:=by
  intro q hq
  rcases zrc q hq with rfl|hq
  exact hp
  rw[hb];exact t.prom q hq
 by_cases h2:(zad S[i].Try p).Phase=1
 have t2:TryOK (ms S[i].Log.length) W (X S[i].Log.length) S[i].Me.toNat (zad S[i].Try p):=by
  refine⟨e1▸t.own,e1▸t.pos,e1▸t.le,e3▸t.wish,e2.trans t.mem,fun q hq=>?_,fun i hi=>?_,fun _=>e1▸t.ask h1,fun h3=>absurd h2 h3⟩
  rw[e1,<-hb];exact hprom q hq
  rw[e1];exact t.acc i (e4▸hi)
 obtain⟨Y,k1,k2,_⟩:=h.try_ hi hme hg hlog hvt hw (fun _=>ht▸t2)
 exact⟨Y,k1,k2,.inl h2⟩
 have hne:(zad S[i].Try p).Phase≠0:=by
  unfold zad zy9
  split
  omega
  split
  simp
  simpa using hph
 have k:=hk.kept hne
 have hval:(zad S[i].Try p).Value=zoc (zad S[i].Try p).Promises (zad S[i].Try p).Wish 0:=by
  rcases k.value with h3|h3
  exact absurd h3 h2
  exact h3
 have hmost:zhg (ms S[i].Log.length) ((zad S[i].Try p).Promises.map TPromise.Node)=true:=by
  have:=k.most
  rw[e2,show S[i].Try.Members=ms S[i].Log.length from t.mem] at this
  rw[this]
  have h3:(zad S[i].Try p).Phase=2\/(zad S[i].Try p).Phase=1\/(zad S[i].Try p).Phase=0\/(zad S[i].Try p).Phase=3:=by
   unfold zkw at hk
   rw[if_neg hne] at hk
   rcases hk.1 with h|h|h
   exact .inr (.inl h.1)
   exact .inl h
   exact .inr (.inr (.inr h))
  rcases h3 with h3|h3|h3|h3
  rw[h3];rfl
  exact absurd h3 h2
  exact absurd h3 hne
  rw[h3];rfl
 have hs:=(h.inv S[i].Log.length).best b (zad S[i].Try p).Promises (zad S[i].Try p).Wish hmost hprom (fun q hq=>by have:=k.may q hq;rw[e1,<-hb] at this;exact this) (e3▸t.wish)
 rw[<-hval] at hs
 have i1:=(h.inv S[i].Log.length).tell S[i].Me.toNat b (zad S[i].Try p).Value (zad S[i].Try p) (hb▸t.ask h1) hs.1 hs.2 rfl (by rw[e1,hb]) h2 (hb▸t.own) (hb▸t.pos) (hb▸t.le) (e3▸t.wish) (e2.trans t.mem) hprom (fun i hi=>by rw[hb];exact t.acc i (e4▸hi))
 have gx:Ge (X S[i].Log.length) {X S[i].Log.length with told:=fun c u=>(X S[i].Log.length).told c u\/(c=b/\u=(zad S[i].Try p).Value),tr:=Go.Proofs.upd (X S[i].Log.length).tr S[i].Me.toNat (zad S[i].Try p)}:=⟨fun _ _ _ _ h=>h,fun _ _ h=>.inl h,fun _ _ _ h=>h,fun _ h=>h⟩
 have ev:∀j,zan s' j=zan S[i] j:=fun j=>by unfold zan;rw[hvt]
 refine⟨_,h.turn (k:=S[i].Log.length) hi hme hg hlog (h.openS hi) i1 gx (fun _ _=>rfl) (fun n hn=>zjq _ _ (by rw[<-hme];exact hn)) (fun _=>by rw[ev,hme];exact h.vt _ hS _ (za4 _)) (fun j _ _=>ev j) (fun _=>by rw[hme,ht];exact zj4 _ _ _) (fun k=>absurd rfl k) hw,GeX.upd gx,.inr ?_⟩
 rw[zj4]
 exact .inr ⟨rfl,rfl⟩
theorem Link.taken(h:Link mem g W S M X ms){i:Nat}(hi:i<S.length){s':TSeat}{b q:Int}(hme:s'.Me=S[i].Me)(hg:s'.Group=S[i].Group)(hlog:s'.Log=S[i].Log)(hvt:s'.Votes=S[i].Votes)(hw:∀v∈s'.Wishes,W v)
  (hc:CanA S[i].Try b q) (ha:∃v,(X S[i].Log.length).acc q.toNat b v) (ht:s'.Try=zb3 S[i].Try q):
  ∃Y,Link mem g W (S.set i s') M Y ms/\GeX X Y/\((zb3 S[i].Try q).Phase=3->(Y S[i].Log.length).ch (zb3 S[i].Try q).Value):=by
 have hS:S[i]∈S:=List.getElem_mem hi
 have etr:=h.tr _ hS
 have hph:S[i].Try.Phase≠0:=by have:=hc.2.1;omega
 have t:TryOK (ms S[i].Log.length) W (X S[i].Log.length) S[i].Me.toNat S[i].Try:=by
  have:=(h.inv S[i].Log.length).tries S[i].Me.toNat (by rw[etr];exact hph)
  rw[etr] at this;exact this
 have hb:b=S[i].Try.Ballot:=hc.2.2.1
 have hk:=zq5 (a:=S[i].Try) (n:=q) ⟨hc.1,hc.2.1,rfl,hc.2.2.2⟩
 have htold:=t.tell (by have:=hc.2.1;omega)
 have hacc:∀i'∈(zb3 S[i].Try q).Accepted,(X S[i].Log.length).acc i'.toNat b S[i].Try.Value:=by
  intro i' hi'
  have:∃v,(X S[i].Log.length).acc i'.toNat b v:=by
   rcases(ya52 _ _ _).1 hi' with rfl|hi'
   exact ha
   rw[hb];exact t.acc i' hi'
  obtain⟨v,hv⟩:=this
  have:=(h.inv _).one b v S[i].Try.Value ((h.inv _).acc _ _ _ hv) (by rw[hb];exact htold)
  rw[<-this];exact hv
 have t2:TryOK (ms S[i].Log.length) W (X S[i].Log.length) S[i].Me.toNat (zb3 S[i].Try q):=by
  refine⟨t.own,t.pos,t.le,t.wish,t.mem,t.prom,fun i' hi'=>⟨S[i].Try.Value,?_⟩,fun h1=>?_,fun _=>htold⟩
  show(X S[i].Log.length).acc i'.toNat S[i].Try.Ballot _
  rw[<-hb];exact hacc i' hi'
  have:=hk.2
  have:=hc.2.1
  omega
 obtain⟨Y,k1,k2,k3⟩:=h.try_ hi hme hg hlog hvt hw (fun _=>ht▸t2)
 by_cases h3:(zb3 S[i].Try q).Phase=3
 have op:Open (S.set i s') S[i].Log.length:=zjx hi (by rw[hlog];exact za4 _) (h.openS hi)
 have hv:=hk.1.kept (by rw[h3];decide)
 have hm:zhg (ms S[i].Log.length) (zb3 S[i].Try q).Accepted=true:=by
  have:=hv.chosen
  rw[h3] at this
  have e3:(zb3 S[i].Try q).Members=ms S[i].Log.length:=t2.mem
  rw[e3] at this
  exact this
 obtain⟨Z,z1,z2,z3⟩:=k1.choose (v:=(zb3 S[i].Try q).Value) op ⟨b,(zb3 S[i].Try q).Accepted,hm,(k2 _).told _ _ (by rw[hb];exact htold),fun i' hi'=>(k2 _).acc _ _ _ (hacc i' hi')⟩
 exact⟨Z,z1,k2.trans z2,fun _=>z3⟩
 exact⟨Y,k1,k2,fun h=>absurd h h3⟩
end Go.Proofs
