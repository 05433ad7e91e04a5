/- Texts of the proof. -/
import Derived.Test.YtbedjbhndfbpcaaGreatSeatOnePg
import Derived.Test.YtbedjbhndfbpcaaGreatSeatOnePf
set_option linter.unusedVariables false
set_option linter.unusedSimpArgs false
namespace Go.Tm
open Go.RowKit Go.WideShapes
set_option linter.unusedSimpArgs false
def zhz(P:Program)(tab:Nat->TI):Prop:=(∀t,(tab t).kind≠0->zd3 P t (tab t)=true)/\∀t,(tab t).eqs=true->zuy P t (tab t)=true
theorem zib{C:Cx}{a:Act}{rd:Nat->D}(hr:∀t,rep C (rd t) (a.eval (.tmp t))){x:Option Operand}{d:Option D}{p:Bool}(hx:∀y∈x.toList,zd0 y=true)(h:opdO true rd x=(d,p))(hp:p=true):zhp C a x d:=by
 cases x with
 |none=>simp only[opdO,zaa] at h;obtain⟨rfl,_⟩:=h;trivial
 |some y=>
  simp only[opdO] at h
  cases h1:opd true rd y with
  |mk d' p'=>
   rw[h1] at h
   cases h
   exact zkk hr (hx y (by simp)) h1 hp rfl
theorem zyc{P:Program}{t:TypeId}{ti:TI}(h:zd3 P t ti=true)(hk:ti.kind=6):∃k,P.underlying t=some (.int k):=by
 obtain⟨i,d,_,hd,hs,_,hm⟩:=zcp h
 cases d<;>simp only[hk] at hm<;>try (first|exact hm.elim|(exfalso;omega)|(exfalso;have:=hm.1;omega))
 exact⟨_,hd⟩
theorem zs6{L L':Int}{lo:Option D}{y:D}{i j i' j':Int}{v v':Bool}(h:zgn L lo (some y)=some (i,j,v))(h':zgn L' lo (some y)=some (i',j',v')):i'=i/\j'=j:=by
 unfold zgn at h h'
 cases lo with
 |none=>
  cases y<;>simp only[reduceCtorEq,za5,zaa] at h h'
  obtain⟨rfl,rfl,_⟩:=h
  obtain⟨rfl,rfl,_⟩:=h'
  exact⟨rfl,rfl⟩
 |some z=>
  cases z<;>cases y<;>simp only[reduceCtorEq,za5,zaa] at h h'
  obtain⟨rfl,rfl,_⟩:=h
  obtain⟨rfl,rfl,_⟩:=h'
  exact⟨rfl,rfl⟩
theorem kd{k:Nat}(h:(!(k==0))=true):k≠0:=by simpa using h
section
variable {P : Program} {tab : Nat -> TI} {E : En} {n : Nat} {F : FrS} {a : Act} {w : World} {g : Gh}
theorem zxe(hT:zhz P tab){t:TypeId}(hk:(tab t).kind=9){k:D}(hkd:keyD (tab (tab t).el) k=true):
  ∀kt vt,P.underlying t=some (.map kt vt)->ya54 P kt k:=by
 intro kt vt hu
 have hel:(tab t).el=kt:=by
  obtain⟨i,d,_,hd,_,_,hm⟩:=zcp (hT.1 t (by omega))
  rw[hu] at hd
  cases hd
  exact hm.2.1
 cases k<;>simp only[keyD,zb0,za0,beq_iff_eq] at hkd
 rename_i i n
 obtain⟨j,hj⟩:=zyc (hT.1 (tab t).el (by omega)) hkd
 rw[hel] at hj
 exact .inl ⟨i,n,j,rfl,hj⟩
 rename_i l
 have hj:=zjd (hT.1 (tab t).el (by omega)) hkd
 rw[hel] at hj
 exact .inr (.inl ⟨l,rfl,hj⟩)
 rename_i l
 have hc:=hT.2 _ hkd.1
 unfold zuy at hc
 split at hc
 rename_i fs hfs
 simp only[za0,Bool.not_eq_true',beq_iff_eq] at hc
 obtain⟨r,hr⟩:=Option.isSome_iff_exists.1 hkd.2
 rw[hel] at hc hfs hr
 exact .inr (.inr ⟨l,_,fs,rfl,hc.1.1.1,hfs,hc.1.2,hc.2,r,hr⟩)
 cases hc
theorem zum{id s off len:Nat}{oc:Option Nat}{ad:Option Addr}{cap:Nat}(hR:Rel E n F a w g)(h:zjr F.hp (.ref id s off len oc)=true)(hx:rep (cx w g F.hp) (.ref id s off len oc) (.slice ad len cap)):0<cap:=by
 cases oc with
 |none=>
  simp only[zjr] at h
  split at h
  rename_i e s' pu items hb
  simp only[za0,Bool.not_eq_true'] at h
  obtain⟨⟨b1,b2⟩,b3⟩:=h
  have:=zvo hR hx hb (nb b1) (by rintro rfl;simp at b2)
  have:=lb b3
  omega
  cases h
 |some c=>
  simp only[zjr] at h
  simp only[rep] at hx
  obtain⟨_,_,_,hv',_,_,_,goc,_⟩:=hx
  simp only[Value.slice.injEq] at hv'
  obtain⟨_,_,rfl⟩:=hv'
  simp only[za0] at h
  have:=goc.1 _ rfl h.2
  have:=lb h.1
  omega
theorem ya4u(hT:zhz P tab){own:Bool}{o:Oper}{nid:Nat}{out:Out}(hok:opOk o.op=true)(hR:Rel E n F a w g)(hn:out.nw=(nid,nid+1)->F.nu nid=true)(h:aop tab own o.op nid true F.rd F.hp=some out)(hv:out.vc=true):
  ze7 P E n a o (F.eff out.eff out.nw) out.d w:=by
 have hrd:=hR.rd
 have hx1:∀x∈o.op.operands.toList,zd0 x=true:=fun x hx=>List.all_eq_true.1 hok x hx
 have rp:∀{x:Operand} {d:D} {p:Bool},x∈o.op.operands.toList->opd true F.rd x=(d,p)->p=true->rep (cx w g F.hp) d (a.eval x):=fun hx he hp=>zkk hrd (hx1 _ hx) he hp rfl
 cases ho:o.op with
 |move x=>
  rw[ho] at h rp
  simp only[aop] at h
  cases h1:opd true F.rd x with
  |mk d p=>
   rw[h1] at h;cases h
   exact zal hR (ya6b hrd (.inl ho) (hx1 x (by rw[ho];simp[Op.operands])) h1 hv)
 |assign x=>
  rw[ho] at h rp
  simp only[aop] at h
  cases h1:opd true F.rd x with
  |mk d p=>
   rw[h1] at h;cases h
   exact zal hR (ya6b hrd (.inr ho) (hx1 x (by rw[ho];simp[Op.operands])) h1 hv)
 |pick c x y=>
  rw[ho] at h rp
  simp only[aop] at h
  cases h1:opd true F.rd c with
  |mk d p=>
   rw[h1] at h
   cases d<;>simp only[reduceCtorEq] at h
   rename_i b0
   simp only[Bool.true_and] at h
   cases h2:opd b0 F.rd x with
   |mk da pa=>
    cases h3:opd (!b0) F.rd y with
    |mk db pb=>
     rw[h2,h3] at h
     simp only at h
     split at h
     rename_i d hd
     cases h
     simp only[za0] at hv
     exact zal hR (ya9s hrd ho (hx1 c (by rw[ho];simp[Op.operands])) (hx1 x (by rw[ho];simp[Op.operands])) (hx1 y (by rw[ho];simp[Op.operands])) h1 hv.1.1 h2 hv.1.2 h3 hv.2 hd)
     cases h
 |alloc t=>
  rw[ho] at h
  simp only[aop,za5] at h
  subst h
  exact ya7v hR (hn rfl) ho (hT.1 t (kd hv))
 |box t x=>
  rw[ho] at h rp
  simp only[aop] at h
  cases h1:opd true F.rd x with
  |mk d p=>
   rw[h1] at h;cases h
   simp only[za0,Bool.not_eq_true',List.isEmpty_eq_false_iff] at hv
   obtain⟨⟨v1,v2⟩,v4⟩:=hv
   exact yab0 hR (hn rfl) ho (rp (by simp[Op.operands]) h1 v1) v2 v4
 |build t ps=>
  rw[ho] at h
  simp only[aop] at h
  cases h1:zo5 true F.rd ps.toList with
  |mk ds p=>
   rw[h1] at h
   simp only at h
   split at h
   rename_i c q hf
   cases h
   simp only[za0,zau,beq_iff_eq] at hv
   obtain⟨⟨v1,v2⟩,v3⟩:=hv
   obtain⟨g1,g2⟩:=zup hrd _ _ _ h1 v1 (by
    have:=hok;rw[opOk,ho] at this;simpa[Op.operands] using this)
   rcases v3 with v3|v3
   exact zal hR (ya70 ho (hT.1 t (by omega)) v3 g1 g2 hf v2)
   exact zal hR (ya5j ho (hT.1 t (by omega)) v3 g1 g2 hf v2)
   cases h
 |buildSlice t len ps=>
  rw[ho] at h
  simp only[aop] at h
  cases h1:opds true F.rd (ps.toList.map (·.2)) with
  |mk ds p=>
   rw[h1] at h
   simp only at h
   cases hown:(own&&!ds.isEmpty) with
   |true=>
    simp only[hown,cond_true,za5] at h
    subst h
    simp only[za0,beq_iff_eq,decide_eq_true_eq] at hv
    obtain⟨⟨⟨⟨v1,v2⟩,v3⟩,v4⟩,v6⟩:=hv
    have g1:=zki hrd _ _ _ h1 v1 (by have:=hok;rw[opOk,ho] at this;simpa[Op.operands] using this)
    exact ya1x hR (hn rfl) ho (hT.1 t (by omega)) v2 (by rw[List.map_map] at g1;exact g1) v3 v4 v6
   |false=>
    simp only[hown,cond_false,za5] at h
    subst h
    simp only[za0,beq_iff_eq,decide_eq_true_eq] at hv
    obtain⟨⟨⟨⟨⟨⟨v1,v2⟩,v3⟩,v4⟩,v5⟩,v6⟩,v7⟩:=hv
    have g1:=zki hrd _ _ _ h1 v1 (by have:=hok;rw[opOk,ho] at this;simpa[Op.operands] using this)
    exact ya1y hR ho (hT.1 t (by omega)) v2 (by rw[List.map_map] at g1;exact g1) v3 v4 v5 v6 v7
 |load t x=>
  rw[ho] at h rp
  simp only[aop] at h
  cases h1:opd true F.rd x with
  |mk d p=>
   rw[h1] at h
   simp only at h
   split at h
   rename_i r q hl
   cases h
   simp only[za0] at hv
   have hv4:(tab t).kind≠4:=by simpa using hv.2.2
   exact zal hR (ya6c hR ho (hT.1 t (kd hv.2.1)) hv4 (rp (by simp[Op.operands]) h1 hv.1.1) hl hv.1.2)
   cases h
 |store t x y=>
  rw[ho] at h rp
  simp only[aop] at h
  cases h1:opd true F.rd x with
  |mk dx p=>
   cases h2:opd true F.rd y with
   |mk dy q=>
    rw[h1,h2] at h
    simp only at h
    split at h
    rename_i r id blk hs
    cases h
    simp only[za0] at hv
    obtain⟨⟨⟨⟨v1,v2⟩,v3⟩,v4⟩,v5⟩:=hv
    have v5:=kd v5
    have rx:=rp (by simp[Op.operands]) h1 v1
    have ry:=rp (by simp[Op.operands]) h2 v2
    unfold zn4 at hs
    split at hs
    split at hs
    rename_i off cs hb
    cases hs
    simp only[za0] at v3
    obtain⟨⟨w1,w2⟩,w3⟩:=v3
    exact zza hR ho (hT.1 t (kd v4)) rx ry hb (nb w1) (lb w2) w3 v5
    cases hs
    split at hs
    rename_i s i off e s' pp items hb
    cases hs
    simp only[za0] at v3
    obtain⟨⟨⟨⟨w1,w2⟩,w3⟩,w4⟩,w5⟩:=v3
    obtain rfl:=nb w2
    exact zzb hR ho (hT.1 t (kd v4)) rx ry hb (nb w1) (lb w3) (lb w4) w5 v5
    cases hs
    cases hs
    cases h
 |nilCheck x=>
  rw[ho] at h rp
  simp only[aop] at h
  cases h1:opd true F.rd x with
  |mk d p=>
   rw[h1] at h
   cases d<;>simp only[reduceCtorEq] at h<;>cases h
   exact zal hR (zqe ho (rp (by simp[Op.operands]) h1 hv) (.inl ⟨_,_,rfl⟩))
   exact zal hR (zqe ho (rp (by simp[Op.operands]) h1 hv) (.inr (.inl ⟨_,_,_,_,rfl⟩)))
   exact zal hR (zqe ho (rp (by simp[Op.operands]) h1 hv) (.inr (.inr ⟨_,_,rfl⟩)))
 |fieldAddr t x f=>
  rw[ho] at h rp
  simp only[aop] at h
  cases h1:opd true F.rd x with
  |mk d p=>
   cases h2:(tab t).offs[f]? with
   |none=>rw[h1,h2] at h;cases d<;>simp at h
   |some z=>
    obtain⟨off,sz,ag⟩:=z
    rw[h1,h2] at h
    cases d<;>simp only[reduceCtorEq] at h<;>cases h<;>simp only[za0,beq_iff_eq] at hv
    exact zal hR (zoq ho (hT.1 t (by have:=hv.2;omega)) hv.2 h2 (rp (by simp[Op.operands]) h1 hv.1) (.inl ⟨_,_,rfl,rfl⟩))
    exact zal hR (zoq ho (hT.1 t (by have:=hv.2;omega)) hv.2 h2 (rp (by simp[Op.operands]) h1 hv.1) (.inr (.inl ⟨_,_,_,_,rfl,rfl⟩)))
    exact zal hR (zoq ho (hT.1 t (by have:=hv.2;omega)) hv.2 h2 (rp (by simp[Op.operands]) h1 hv.1.1) (.inr (.inr ⟨_,_,rfl,rfl,lb hv.1.2⟩)))
 |field t x f=>
  rw[ho] at h rp
  simp only[aop] at h
  cases h1:opd true F.rd x with
  |mk d p=>
   cases h2:(tab t).offs[f]? with
   |none=>rw[h1,h2] at h;cases d<;>simp at h
   |some z=>
    obtain⟨off,sz,ag⟩:=z
    rw[h1,h2] at h
    cases d<;>simp only[reduceCtorEq] at h
    split at h
    rename_i hd
    cases h
    simp only[za0,beq_iff_eq] at hv
    exact zal hR (ya6z ho (hT.1 t (by have:=hv.2;omega)) hv.2 h2 (rp (by simp[Op.operands]) h1 hv.1.1) hd)
    cases h
 |indexAddr t x i=>
  rw[ho] at h rp
  simp only[aop] at h
  cases h1:opd true F.rd x with
  |mk dx p=>
   cases h2:opd true F.rd i with
   |mk di q=>
    rw[h1,h2] at h
    cases dx<;>cases di<;>simp only[reduceCtorEq] at h<;>cases h<;>simp only[za0,beq_iff_eq,decide_eq_true_eq] at hv
    obtain⟨⟨⟨⟨⟨⟨v1,v2⟩,v3⟩,v4⟩,v5⟩,v6⟩,v7⟩:=hv
    exact zal hR (zso hR ho (hT.1 t (by omega)) v6 (rp (by simp[Op.operands]) h1 v1) (rp (by simp[Op.operands]) h2 v2) v3 v4 (nb v5) (lb v7))
    obtain⟨⟨⟨⟨⟨v1,v2⟩,v3⟩,v4⟩,v5⟩,v6⟩:=hv
    exact zal hR (zsm ho (hT.1 t (by omega)) v6 (rp (by simp[Op.operands]) h1 v1) (rp (by simp[Op.operands]) h2 v2) v3 v4 (nb v5))
    obtain⟨⟨⟨⟨v1,v2⟩,v3⟩,v4⟩,v5⟩:=hv
    exact zal hR (zsn ho (hT.1 t (by omega)) v5 (rp (by simp[Op.operands]) h1 v1) (rp (by simp[Op.operands]) h2 v2) v3 v4)
 |index t x i=>
  rw[ho] at h rp
  simp only[aop] at h
  cases h1:opd true F.rd x with
  |mk dx p=>
   cases h2:opd true F.rd i with
   |mk di q=>
    rw[h1,h2] at h
    cases dx<;>cases di<;>simp only[reduceCtorEq] at h<;>cases h
    simp only[za0,beq_iff_eq,decide_eq_true_eq] at hv
    obtain⟨⟨⟨⟨v1,v2⟩,v3⟩,v4⟩,v5⟩:=hv
    exact zal hR (ya6y ho (hT.1 t (by omega)) v5 (rp (by simp[Op.operands]) h1 v1) (rp (by simp[Op.operands]) h2 v2) v3 v4)
 |slice t x lo hi mx=>
  rw[ho] at h rp
  have ml:∀y∈lo.toList,zd0 y=true:=fun y hy=>hx1 y (by rw[ho];simp[Op.operands] at hy ⊢;simp[hy])
  have mh:∀y∈hi.toList,zd0 y=true:=fun y hy=>hx1 y (by rw[ho];simp[Op.operands] at hy ⊢;simp[hy])
  cases mx with
  |some m=>
   simp only[aop] at h
   cases h1:opd true F.rd x with
   |mk dx p=>
    cases h2:opdO true F.rd lo with
    |mk dlo q=>
     cases h3:opdO true F.rd hi with
     |mk dhi r=>
      cases h4:opd true F.rd m with
      |mk dm u=>
       rw[h1,h2,h3,h4] at h
       cases dx<;>simp only[reduceCtorEq] at h
       split at h
       rename_i i j k v hs
       cases h
       simp only[za0,beq_iff_eq] at hv
       obtain⟨⟨⟨⟨⟨⟨v1,v2⟩,v3⟩,v4⟩,v5⟩,v6⟩,v7⟩:=hv
       exact zal hR (zx1 ho (hT.1 t (by omega)) v7 (ya00 (rp (by simp[Op.operands]) h1 v1) v6) (zib hrd ml h2 v2) (zib hrd mh h3 v3) (rp (by simp[Op.operands]) h4 v4) hs v5 rfl)
       cases h
       split at h
       rename_i i j k v hs
       cases h
       simp only[za0,beq_iff_eq] at hv
       obtain⟨⟨⟨⟨⟨⟨v1,v2⟩,v3⟩,v4⟩,v5⟩,v6⟩,v7⟩:=hv
       rename_i id s off len oc _
       have hxr:=rp (by simp[Op.operands]) h1 v1
       cases hnn:(decide (i=k)&&(Nat.blt 0 len||zjr F.hp (.ref id s off len oc))) with
       |false=>
        simp only[hnn,cond_false]
        cases oc with
        |none=>exact zal hR (znb (L:=len) ho (hT.1 t (by omega)) v7 hxr (zib hrd ml h2 v2) (zib hrd mh h3 v3) (rp (by simp[Op.operands]) h4 v4) hs v5 (nb v6) (.inl rfl))
        |some c=>
         cases hck:capK c with
         |true=>
          simp only[hck,cond_true] at hs
          exact zal hR (znb (L:=c) ho (hT.1 t (by omega)) v7 hxr (zib hrd ml h2 v2) (zib hrd mh h3 v3) (rp (by simp[Op.operands]) h4 v4) hs v5 (nb v6) (.inr ⟨rfl,hck⟩))
         |false=>
          simp only[hck,cond_false] at hs
          exact zal hR (znb (L:=len) ho (hT.1 t (by omega)) v7 hxr (zib hrd ml h2 v2) (zib hrd mh h3 v3) (rp (by simp[Op.operands]) h4 v4) hs v5 (nb v6) (.inl rfl))
       |true=>
        simp only[hnn,cond_true]
        simp only[za0,decide_eq_true_eq,zau] at hnn
        have hnz:∀ad cap,a.eval x=.slice ad len cap->0<cap:=by
         intro ad cap he
         rcases hnn.2 with h0|h0
         rw[he] at hxr
         simp only[rep] at hxr
         obtain⟨_,_,_,hv',g1,_⟩:=hxr
         simp only[Value.slice.injEq] at hv'
         obtain⟨_,_,rfl⟩:=hv'
         have:=lb h0
         omega
         exact zum hR h0 (he▸hxr)
        cases oc with
        |none=>exact zal hR (zma (L:=len) ho (hT.1 t (by omega)) v7 hxr (zib hrd ml h2 v2) (zib hrd mh h3 v3) (rp (by simp[Op.operands]) h4 v4) hs v5 (nb v6) (.inl rfl) hnn.1 hnz)
        |some c=>
         cases hck:capK c with
         |true=>
          simp only[hck,cond_true] at hs
          exact zal hR (zma (L:=c) ho (hT.1 t (by omega)) v7 hxr (zib hrd ml h2 v2) (zib hrd mh h3 v3) (rp (by simp[Op.operands]) h4 v4) hs v5 (nb v6) (.inr ⟨rfl,hck⟩) hnn.1 hnz)
         |false=>
          simp only[hck,cond_false] at hs
          exact zal hR (zma (L:=len) ho (hT.1 t (by omega)) v7 hxr (zib hrd ml h2 v2) (zib hrd mh h3 v3) (rp (by simp[Op.operands]) h4 v4) hs v5 (nb v6) (.inl rfl) hnn.1 hnz)
       cases h
  |none=>
  simp only[aop] at h
  cases h1:opd true F.rd x with
  |mk dx p=>
   cases h2:opdO true F.rd lo with
   |mk dlo q=>
    cases h3:opdO true F.rd hi with
    |mk dhi r=>
     rw[h1,h2,h3] at h
     cases dx<;>simp only[reduceCtorEq] at h
     split at h
     rename_i i j v hs
     cases h
     simp only[za0,beq_iff_eq] at hv
     obtain⟨⟨⟨⟨v1,v2⟩,v3⟩,v4⟩,v5⟩:=hv
     exact zal hR (zym ho (hT.1 t (by omega)) v5 (rp (by simp[Op.operands]) h1 v1) (zib hrd ml h2 v2) (zib hrd mh h3 v3) hs v4)
     cases h
     split at h
     rename_i i j v hs
     cases h
     simp only[za0,beq_iff_eq] at hv
     obtain⟨⟨⟨⟨⟨v1,v2⟩,v3⟩,v4⟩,v5⟩,v6⟩:=hv
     exact zal hR (zyo ho (hT.1 t (by omega)) v6 (ya00 (rp (by simp[Op.operands]) h1 v1) v5) (zib hrd ml h2 v2) (zib hrd mh h3 v3) hs v4 rfl)
     cases h
     rename_i id s off len oc
     split at h
     rename_i i j v hs
     cases h
     simp only[za0,beq_iff_eq] at hv
     obtain⟨⟨⟨⟨⟨v1,v2⟩,v3⟩,v4⟩,v5⟩,v6⟩:=hv
     have hxr:=rp (by simp[Op.operands]) h1 v1
     have key:∀(L:Nat) (v':Bool),zgn (L:Nat) dlo dhi=some (i,j,v')->v'=true->(L=len\/(∀ad cap,a.eval x=.slice ad len cap->L<=cap)/\dhi≠none)->ze7 P E n a o (F.eff [] (0,0)) (.ref id s (off+i.toNat) (j-i).toNat (capS oc i.toNat)) w:=
      fun L v' hs' hv' hL=>zal hR (zyn ho (hT.1 t (by omega)) v6 hxr (zib hrd ml h2 v2) (zib hrd mh h3 v3) hs' hv' (nb v5) hL)
     cases hvv:v with
     |true=>exact key len v hs hvv (.inl rfl)
     |false=>
      rw[hvv] at v4
      simp only[Bool.false_or,za0] at v4
      obtain⟨k1,k2⟩:=v4
      cases dhi with
      |none=>cases k1
      |some y=>
       unfold zu8 at k2
       cases oc with
       |some c0=>
        simp only[za0] at k2
        obtain⟨kk,k2⟩:=k2
        split at k2
        rename_i i' j' v' hs'
        obtain⟨rfl,rfl⟩:=zs6 hs hs'
        refine key c0 v' hs' k2 (.inr ⟨fun ad cap he=>?_,by simp⟩)
        rw[he] at hxr
        simp only[rep] at hxr
        obtain⟨_,_,_,hv',_,_,_,goc,_⟩:=hxr
        simp only[Value.slice.injEq] at hv'
        obtain⟨_,_,rfl⟩:=hv'
        exact Nat.le_of_eq (goc.1 _ rfl kk).symm
        cases k2
       |none=>
        simp only at k2
        split at k2
        rename_i e s' pu items hb
        simp only[za0,Bool.not_eq_true'] at k2
        obtain⟨⟨⟨b1,b2⟩,b3⟩,b4⟩:=k2
        split at b4
        rename_i i' j' v' hs'
        obtain⟨rfl,rfl⟩:=zs6 hs hs'
        refine key (items.length-off) v' hs' b4 (.inr ⟨fun ad cap he=>?_,by simp⟩)
        rw[he] at hxr
        have:=zvo hR hxr hb (nb b1) (by rintro rfl;simp at b2)
        omega
        cases b4
        cases k2
     cases h
 |extract x i=>
  rw[ho] at h rp
  simp only[aop] at h
  cases h1:opd true F.rd x with
  |mk d p=>
   rw[h1] at h
   cases d<;>simp only[reduceCtorEq] at h
   split at h
   rename_i hd
   cases h
   exact zal hR (ya3b ho (rp (by simp[Op.operands]) h1 hv) hd)
   cases h
 |makeFunc f first caps=>
  rw[ho] at h rp
  simp only[aop] at h
  split at h
  rename_i k ds p hf h1
  cases h
  have hfe:first=#[]:=by apply Array.ext';simpa using hf
  subst hfe
  exact zal hR (ya1l ho (zki hrd _ _ _ h1 hv (by have:=hok;rw[opOk,ho] at this;simpa[Op.operands] using this)))
  rename_i k x p hf h1
  cases h2:opd true F.rd x with
  |mk d q=>
   rw[h2] at h
   cases h
   have hfe:first=#[x]:=by apply Array.ext';simpa using hf
   subst hfe
   have hca:caps=#[]:=by
    cases hc:caps.toList with
    |nil=>apply Array.ext';simpa using hc
    |cons y ys=>rw[hc] at h1;simp only[opds] at h1;cases h1
   subst hca
   simp only[za0] at hv
   exact zal hR (ya3a ho (rp (by simp[Op.operands]) h2 hv.2))
  cases h
 |makeInterface t x=>
  rw[ho] at h rp
  simp only[aop] at h
  cases h1:opd true F.rd x with
  |mk d p=>
   rw[h1] at h;cases h
   simp only[za0] at hv
   exact zal hR (zsl ho (hT.1 t (kd hv.1.2)) (by have:=hv.2;simpa using this) (rp (by simp[Op.operands]) h1 hv.1.1))
 |makeSlice t x y=>
  rw[ho] at h rp
  simp only[aop] at h
  cases h1:opd true F.rd x with
  |mk dx p=>
   cases h2:opd true F.rd y with
   |mk dy q=>
    rw[h1,h2] at h
    cases dx<;>cases dy<;>simp only[reduceCtorEq] at h
    cases h
    simp only[za0,beq_iff_eq,decide_eq_true_eq] at hv
    obtain⟨⟨⟨⟨⟨⟨⟨⟨v1,v2⟩,v3⟩,v4⟩,v5⟩,v6⟩,v7⟩,_⟩,_⟩:=hv
    exact zzc hR (hn rfl) ho (hT.1 t (by omega)) v7 (rp (by simp[Op.operands]) h1 v1) (rp (by simp[Op.operands]) h2 v2) v3 v4 v5 v6
 |makeMap t r=>
  rw[ho] at h
  simp only[aop] at h
  cases h1:opdO true F.rd r with
  |mk d p=>
   rw[h1] at h
   cases r with
   |none=>
    simp only[opdO,zaa] at h1
    obtain⟨rfl,rfl⟩:=h1
    simp only[za5] at h
    subst h
    exact zxu hR (ti:=tab t) (hn rfl) ho (.inl rfl)
   |some y=>
    simp only[opdO] at h1
    cases h2:opd true F.rd y with
    |mk dy q=>
     rw[h2] at h1
     simp only[zaa] at h1
     obtain⟨rfl,rfl⟩:=h1
     cases dy<;>simp only[reduceCtorEq] at h
     cases h
     simp only[za0,beq_iff_eq] at hv
     exact zxu hR (hn rfl) ho (.inr ⟨y,_,_,rfl,zkk hrd (hx1 y (by rw[ho];simp[Op.operands])) h2 hv.1 rfl,hT.1 t (by omega),hv.2⟩)
 |lookup t x i ok=>
  rw[ho] at h rp
  simp only[aop] at h
  cases h1:opd true F.rd x with
  |mk dx p=>
   cases h2:opd true F.rd i with
   |mk k q=>
    rw[h1,h2] at h
    cases dx<;>simp only[reduceCtorEq] at h
    rename_i id
    split at h
    rename_i es hb
    split at h
    rename_i r hf
    cases h
    simp only[za0,beq_iff_eq] at hv
    obtain⟨⟨⟨v1,v2⟩,v3⟩,v4⟩:=hv
    exact zal hR (ya02 hR ho (hT.1 t (by omega)) v3 (rp (by simp[Op.operands]) h1 v1) (rp (by simp[Op.operands]) h2 v2) (.inr ⟨id,es,rfl,hb,hf⟩) (zxe hT v3 v4))
    cases h
    cases h
    cases h
    simp only[za0,beq_iff_eq] at hv
    obtain⟨⟨⟨v1,v2⟩,v3⟩,v4⟩:=hv
    exact zal hR (ya02 (r:=none) hR ho (hT.1 t (by omega)) v3 (rp (by simp[Op.operands]) h1 v1) (rp (by simp[Op.operands]) h2 v2) (.inl ⟨rfl,rfl⟩) (zxe hT v3 v4))
 |mapUpdate t x i y=>
  rw[ho] at h rp
  simp only[aop] at h
  cases h1:opd true F.rd x with
  |mk dx p=>
   cases h2:opd true F.rd i with
   |mk k q=>
    cases h3:opd true F.rd y with
    |mk v r=>
     rw[h1,h2,h3] at h
     cases dx<;>simp only[reduceCtorEq] at h
     split at h
     rename_i es hb
     split at h
     rename_i es' hf
     cases h
     simp only[za0,beq_iff_eq] at hv
     obtain⟨⟨⟨⟨v1,v2⟩,v3⟩,v4⟩,v5⟩:=hv
     exact ztg hR (.inl ho) (hT.1 t (by omega)) v4 (rp (by simp[Op.operands]) h1 v1) (rp (by simp[Op.operands]) h2 v2) (rp (by simp[Op.operands]) h3 v3) hb hf (zxe hT v4 v5)
     cases h
     cases h
 |insert t x i y=>
  rw[ho] at h rp
  simp only[aop] at h
  cases h1:opd true F.rd x with
  |mk dx p=>
   cases h2:opd true F.rd i with
   |mk k q=>
    cases h3:opd true F.rd y with
    |mk v r=>
     rw[h1,h2,h3] at h
     cases dx<;>simp only[reduceCtorEq] at h
     split at h
     rename_i es hb
     split at h
     rename_i es' hf
     cases h
     simp only[za0,beq_iff_eq] at hv
     obtain⟨⟨⟨⟨v1,v2⟩,v3⟩,v4⟩,v5⟩:=hv
     exact ztg hR (.inr ho) (hT.1 t (by omega)) v4 (rp (by simp[Op.operands]) h1 v1) (rp (by simp[Op.operands]) h2 v2) (rp (by simp[Op.operands]) h3 v3) hb hf (zxe hT v4 v5)
     cases h
     cases h
 |convert t' t x=>
  rw[ho] at h rp
  simp only[aop] at h
  cases h1:opd true F.rd x with
  |mk d p=>
   rw[h1] at h
   have text:∀{d:D},opd true F.rd x=(d,p)->(∀l,d≠.str l)->(match srcD F.hp 1 d with
     |some (xs,_,q)=>match zmu xs with
      |some l=>some ({d:=.str l,vc:=p&&q&&(tab t).kind==5&&(tab t').kind==3&&(tab (tab t').el).ik==some .u8&&(tab (tab t').el).kind==6}:Out)
      |none=>none
     |none=>none)=some out->ze7 P E n a o (F.eff out.eff out.nw) out.d w:=by
    intro d h1 hns h
    split at h
    rename_i xs pp q hsd
    split at h
    rename_i l hl
    cases h
    simp only[za0,beq_iff_eq] at hv
    obtain⟨⟨⟨⟨⟨v1,v2⟩,v3⟩,v4⟩,v5⟩,v6⟩:=hv
    have hr:=rp (by simp[Op.operands]) h1 v1
    have hlen:((xs.length:Nat):Int)<=9223372036854775807:=by
     have:=zn5 hR hr hsd v2
     cases d<;>simp only[srcD,reduceCtorEq] at hsd
     exact absurd rfl (hns _)
     simp only[rep] at hr
     obtain⟨ad,cap,_,g1,g2,_⟩:=hr
     cases hsd
     rw[zss];omega
     simp only[rep] at hr
     obtain⟨_,ad,cap,_,g1,g2,_⟩:=hr
     split at hsd
     cases hsd
     simp;omega
     cases hsd
    refine zal hR (ya1n (C:=cx w g F.hp) rfl ho (hT.1 t (by omega)) v3 (hT.1 t' (by omega)) v4 (hT.1 _ (by omega)) v6 v5 (zn5 hR hr hsd v2) ?_ hl hlen)
    intro s hs
    rw[hs] at hr
    cases d<;>simp only[srcD,reduceCtorEq] at hsd<;>simp only[rep] at hr
    exact absurd rfl (hns _)
    obtain⟨_,_,h,_⟩:=hr;cases h
    obtain⟨_,_,_,h,_⟩:=hr;cases h
    cases h
    cases h
   cases d
   case int k m=>
    simp only at h
    split at h
    rename_i k' hk
    cases h
    simp only[za0,beq_iff_eq] at hv
    exact zal hR (ya3c ho (hT.1 t (by omega)) (hT.1 t' (kd hv.2)) hv.1.2 hk (rp (by simp[Op.operands]) h1 hv.1.1))
    cases h
   case str l=>
    simp only at h
    cases hk:((tab t).kind==5)
    rw[hk] at h
    simp only[cond_false,za5] at h
    subst h
    simp only[za0,beq_iff_eq] at hv
    obtain⟨⟨⟨⟨v1,v2⟩,v3⟩,v4⟩,v5⟩:=hv
    exact zzd hR ho (hT.1 t (by omega)) v3 (hT.1 _ (by omega)) v5 v4 (hT.1 t' (kd v2)) (rp (by simp[Op.operands]) h1 v1)
    rw[hk] at h
    simp only[cond_true,za5] at h
    subst h
    simp only[za0] at hv
    simp only[beq_iff_eq] at hk
    exact zal hR (ya1m ho (hT.1 t (by omega)) (hT.1 t' (kd hv.2)) hk (rp (by simp[Op.operands]) h1 hv.1))
   all_goals exact text h1 (by intro l hl;cases hl) h
 |unOp op t x=>
  rw[ho] at h rp
  simp only[aop] at h
  cases h1:opd true F.rd x with
  |mk d p=>
   rw[h1] at h
   cases d<;>simp only[reduceCtorEq] at h<;>cases op<;>simp only[reduceCtorEq] at h<;>cases h
   exact zal hR (yaao ho (rp (by simp[Op.operands]) h1 hv))
   exact zal hR (yaap ho (rp (by simp[Op.operands]) h1 hv))
 |binOp op t x y ty=>
  rw[ho] at h rp
  simp only[aop] at h
  cases h1:opd true F.rd x with
  |mk dx p=>
   cases h2:opd true F.rd y with
   |mk dy q=>
    rw[h1,h2] at h
    split at h
    rename_i l px l' py e1 e2
    cases e1;cases e2
    have heq:∀r d,zgc (tab t).zero l l'=some r->(op=.eql/\d=.bool r\/op=.neq/\d=.bool (!r))->(tab t).eqs=true->p=true->q=true->zg2 P (cx w g F.hp) a o d w:=by
     intro r d hr hop he hp hq
     have hc:=hT.2 t he
     unfold zuy at hc
     split at hc
     rename_i fs hfs
     simp only[za0,Bool.not_eq_true',beq_iff_eq] at hc
     exact ya71 ho hc.1.1.1 hc.1.1.2 hfs hc.1.2 hc.2 hr (rp (by simp[Op.operands]) h1 hp) (rp (by simp[Op.operands]) h2 hq) hop
     cases hc
    split at h
    rename_i r hr
    cases h
    simp only[za0] at hv
    exact zal hR (heq r _ hr (.inl ⟨rfl,rfl⟩) hv.2 hv.1.1 hv.1.2)
    rename_i r hr
    cases h
    simp only[za0] at hv
    exact zal hR (heq r _ hr (.inr ⟨rfl,rfl⟩) hv.2 hv.1.1 hv.1.2)
    cases h
    rename_i dx' px' dy' py' _ e1 e2
    cases e1;cases e2
    split at h
    ·rename_i d r hb
     cases h
     simp only[za0] at hv
     obtain⟨⟨⟨v1,v2⟩,v3⟩,hk⟩:=hv
     have v3':r=true\/∃id s off len oc,dx=.ref id s off len oc/\∀ad cap,a.eval x=.slice ad len cap->0<cap:=by
      cases r with
      |true=>exact .inl rfl
      |false=>
       right
       simp only[Bool.false_or] at v3
       have hxr:=rp (by simp[Op.operands]) h1 v1
       cases dx
       case ref id s off len oc _=>exact⟨id,s,off,len,oc,rfl,fun ad cap he=>zum hR v3 (he▸hxr)⟩
       all_goals cases v3
     refine zal hR (yaas ho hb v3' (rp (by simp[Op.operands]) h1 v1) (rp (by simp[Op.operands]) h2 v2) ?_ ?_ ?_ ?_ ?_)
     rintro s l c s' c' rfl rfl
     simp only[binT,beq_iff_eq] at hk
     obtain⟨e,j,hu,_⟩:=zcs (hT.1 t (by omega)) hk
     exact⟨e,hu⟩
     rintro id s off len oc rfl
     simp only[binT,beq_iff_eq] at hk
     obtain⟨e,j,hu,_⟩:=zcs (hT.1 t (by omega)) hk
     exact⟨e,hu⟩
     rintro b rfl
     simp only[binT,beq_iff_eq] at hk
     exact ya6n (hT.1 t (by omega)) hk
     rintro rfl
     simp only[binT,za0,beq_iff_eq] at hk
     exact⟨hk.2,zzu (hT.1 t (by omega)) hk.1⟩
     rintro ty' d' rfl
     simp only[binT,beq_iff_eq] at hk
     exact zzu (hT.1 t (by omega)) hk
    cases h
 |call c=>
  rw[ho] at h rp
  have hm:∀x∈c.args.toList,∀b,c.callee=.builtin b->x∈(Op.call c).operands.toList:=by
   intro x hx b hc
   simp only[Op.operands,Call.operands,hc,Array.toList_append,List.mem_append]
   exact .inr hx
  simp only[aop] at h
  split at h
  -- len
  rename_i x t hc hca hct
  have hmem:=hm x (by rw[hca];simp) _ hc
  cases h1:opd true F.rd x with
  |mk d p=>
   rw[h1] at h
   cases d<;>simp only[reduceCtorEq] at h<;>cases h<;>simp only[za0,beq_iff_eq] at hv
   exact zal hR (ya6x ho hc hca hct (hT.1 t (by have:=hv.2;omega)) (rp hmem h1 hv.1) (.inr ⟨hv.2,_,rfl,rfl⟩))
   exact zal hR (ya6x ho hc hca hct (hT.1 t (by have:=hv.2;omega)) (rp hmem h1 hv.1) (.inl ⟨hv.2,.inl ⟨_,_,_,rfl,rfl⟩⟩))
   exact zal hR (ya6x ho hc hca hct (hT.1 t (by have:=hv.2;omega)) (rp hmem h1 hv.1) (.inl ⟨hv.2,.inr ⟨_,_,_,_,rfl⟩⟩))
  ·-- cap
   rename_i x t hc hca hct
   have hmem:=hm x (by rw[hca];simp) _ hc
   cases h1:opd true F.rd x with
   |mk d p=>
    rw[h1] at h
    cases d
    case imm s l k=>
     cases h
     simp only[za0,zau,beq_iff_eq] at hv
     refine zal hR (ya9t ho hc hca hct (hT.1 t (by have:=hv.1.2;omega)) hv.1.2 (rp hmem h1 hv.1.1) (.inl ⟨_,_,_,rfl,rfl,?_⟩))
     rcases hv.2 with h|h
     exact .inl (lb h)
     exact .inr (nb h)
    case ref id s off len oc=>
     cases oc with
     |none=>cases h
     |some k=>
     cases h
     simp only[za0,beq_iff_eq] at hv
     exact zal hR (ya9t ho hc hca hct (hT.1 t (by have:=hv.1.2;omega)) hv.1.2 (rp hmem h1 hv.1.1) (.inr ⟨_,_,_,_,rfl,hv.2⟩))
    all_goals simp only[reduceCtorEq] at h
  -- append
  rename_i s x t t' hc hca hct
  have hm1:=hm s (by rw[hca];simp) _ hc
  have hm2:=hm x (by rw[hca];simp) _ hc
  cases h1:opd true F.rd s with
  |mk ds p=>
   cases h2:opd true F.rd x with
   |mk dx q=>
    rw[h1,h2] at h
    simp only at h
    split at h
    rename_i xs px vx hsd
    split at h
    rename_i out' ha
    cases h
    simp only[za0,zau,beq_iff_eq] at hv
    obtain⟨⟨⟨⟨v1,v2⟩,v3⟩,v4⟩,v5⟩:=hv
    refine ya1z (out:=out') hR ho hc hca hct (hT.1 t (by omega)) v4 ?_ (rp hm1 h1 v1) (fun hvx=>zn5 hR (rp hm2 h2 v2) hsd hvx) ha v3
    rcases v5 with h5|h5
    obtain⟨e,j,hu,_⟩:=zcs (hT.1 t' (by omega)) h5
    exact .inl ⟨e,hu⟩
    exact .inr (zjd (hT.1 t' (by omega)) h5)
    split at h
    rename_i out' ha
    cases h
    simp only[za0,zau,beq_iff_eq] at hv
    obtain⟨⟨⟨⟨v1,v2⟩,v3⟩,v4⟩,v5⟩:=hv
    refine ya61 (out:=out') hR hn ho hc hca hct (hT.1 t (by omega)) v4 ?_ (rp hm1 h1 v1) (fun hvx=>zn5 hR (rp hm2 h2 v2) hsd hvx) ha v3
    rcases v5 with h5|h5
    obtain⟨e,j,hu,_⟩:=zcs (hT.1 t' (by omega)) h5
    exact .inl ⟨e,hu⟩
    exact .inr (zjd (hT.1 t' (by omega)) h5)
    cases h
    split at h
    rename_i out' ha
    cases h
    simp only[za0,beq_iff_eq] at hv
    obtain⟨⟨⟨⟨v1,v2⟩,v3⟩,v4⟩,v5⟩:=hv
    unfold zia at ha
    split at ha
    split at ha
    rename_i hb
    cases ha
    simp only[za0,decide_eq_true_eq] at v3
    obtain⟨⟨⟨⟨⟨⟨⟨w1,w2⟩,w3⟩,w4⟩,w5⟩,wk⟩,w6⟩,w7⟩:=v3
    obtain rfl:=nb w2
    obtain⟨kn,hkn⟩:=zyc (hT.1 t' (by omega)) v5
    exact ya4k hR (hn rfl) ho hc hca hct (hT.1 t (by omega)) v4 hkn (rp hm1 h1 v1) hb (nb w3) (lb w4) (rp hm2 h2 v2) w5 wk (lb w6) w7
    cases ha
    rename_i s0 c0 k0 m0
    cases ha
    simp only[za0,zau,decide_eq_true_eq] at v3
    obtain⟨⟨w1,w2⟩,w3⟩:=v3
    obtain⟨kn,hkn⟩:=zyc (hT.1 t' (by omega)) v5
    have hse:=rp hm1 h1 v1
    simp only[rep] at hse
    obtain⟨ad,cap,hsv,g1,g2,g3,g4,g5,g6,_⟩:=hse
    have hcap:cap=0:=g5 (by rcases w1 with h|h;exact .inl (lb h);exact .inr (nb h))
    subst hcap
    have:=zuz hR (hn rfl) ho hc hca hct (hT.1 t (by omega)) v4 hkn (its:=[]) (p:=true) (base:=ad) (cap:=0) (by simpa using hsv) (.inl ⟨ad,0,by simp,.inl rfl⟩) (rp hm2 h2 v2) w2 (by simp;omega) (by simpa using w3)
    simpa using this
    cases ha
    cases h
  -- copy
  rename_i s x t t' hc hca hct
  have hm1:=hm s (by rw[hca];simp) _ hc
  have hm2:=hm x (by rw[hca];simp) _ hc
  cases h1:opd true F.rd s with
  |mk ds p=>
   cases h2:opd true F.rd x with
   |mk dx q=>
    rw[h1,h2] at h
    split at h
    rename_i e1 e2
    cases e1;cases e2
    split at h
    rename_i hb hb2
    cases h
    simp only[za0,beq_iff_eq] at hv
    obtain⟨⟨⟨⟨⟨⟨⟨⟨v1,v2⟩,v3⟩,v4⟩,v5⟩,v6⟩,v7⟩,v8⟩,v9⟩:=hv
    obtain rfl:=nb v3
    obtain rfl:=nb v5
    exact ya7t hR ho hc hca hct (hT.1 t (by omega)) v9 (rp hm1 h1 v1) hb (nb v4) (lb v7) (rp hm2 h2 v2) hb2 (nb v6) (lb v8)
    cases h
    rename_i e1 e2
    cases e1;cases e2
    split at h
    rename_i e s'' pu items xs px vx hb hsd
    cases h
    simp only[za0,beq_iff_eq] at hv
    obtain⟨⟨⟨⟨⟨⟨v1,v2⟩,v3⟩,v4⟩,v5⟩,v6⟩,v7⟩:=hv
    obtain rfl:=nb v4
    exact yaac hR ho hc hca hct (hT.1 t (by omega)) v7 (rp hm1 h1 v1) hb (nb v5) (lb v6) (zn5 hR (rp hm2 h2 v2) hsd v3)
    cases h
    cases h
  -- clear
  rename_i x t hc hca hct
  have hmem:=hm x (by rw[hca];simp) _ hc
  cases h1:opd true F.rd x with
  |mk d p=>
   rw[h1] at h
   split at h
   rename_i s k p' he
   cases he
   cases h
   simp only[za0,beq_iff_eq] at hv
   obtain⟨e,j,hu,hj,_⟩:=zcs (hT.1 t (by omega)) hv.2
   have hx:=rp hmem h1 hv.1
   simp only[rep] at hx
   obtain⟨ad,cap,hx,_⟩:=hx
   have e1:c.args=#[x]:=by apply Array.ext';simpa using hca
   have e2:c.argTypes=#[t]:=by apply Array.ext';simpa using hct
   refine zal hR ⟨.tuple #[],?_,by simp only[rep,reps];exact⟨[],rfl,rfl⟩⟩
   unfold execOp
   cases ad<;>simp[ho,resolve,hc,e1,e2,hx,invoke,builtin,Builtin.clear_,run_underlying hu]
   rename_i id s off len oc p' he
   cases he
   split at h
   rename_i e s' pu items hb
   cases h
   simp only[za0,beq_iff_eq] at hv
   obtain⟨⟨⟨⟨⟨⟨v1,v2⟩,v3⟩,v4⟩,v5⟩,_⟩,_⟩:=hv
   obtain rfl:=nb v3
   exact ya7u hR ho hc hca hct (hT.1 t (by omega)) v2 (rp hmem h1 v1) hb (nb v4) (lb v5)
   cases h
   cases h
  -- max
  rename_i x y hc hca
  have hm1:=hm x (by rw[hca];simp) _ hc
  have hm2:=hm y (by rw[hca];simp) _ hc
  cases h1:opd true F.rd x with
  |mk d p=>
   cases h2:opd true F.rd y with
   |mk d' q=>
    rw[h1,h2] at h
    cases d<;>cases d'<;>simp only[reduceCtorEq] at h
    rename_i k m k' m'
    cases hk:decide (k=k') with
    |false=>rw[hk] at h;cases h
    |true=>
     simp only[hk,cond_true] at h
     cases h
     simp at hk;subst hk
     simp only[za0] at hv
     exact zal hR (yaar ho hc hca (rp hm1 h1 hv.1) (rp hm2 h2 hv.2))
  -- min
  rename_i x y hc hca
  have hm1:=hm x (by rw[hca];simp) _ hc
  have hm2:=hm y (by rw[hca];simp) _ hc
  cases h1:opd true F.rd x with
  |mk d p=>
   cases h2:opd true F.rd y with
   |mk d' q=>
    rw[h1,h2] at h
    cases d<;>cases d'<;>simp only[reduceCtorEq] at h
    rename_i k m k' m'
    cases hk:decide (k=k') with
    |false=>rw[hk] at h;cases h
    |true=>
     simp only[hk,cond_true] at h
     cases h
     simp at hk;subst hk
     simp only[za0] at hv
     exact zal hR (yaaq ho hc hca (rp hm1 h1 hv.1) (rp hm2 h2 hv.2))
  -- delete
  rename_i x i t t' hc hca hct
  have hm1:=hm x (by rw[hca];simp) _ hc
  have hm2:=hm i (by rw[hca];simp) _ hc
  cases h1:opd true F.rd x with
  |mk d p=>
   cases h2:opd true F.rd i with
   |mk k q=>
    rw[h1,h2] at h
    cases d<;>simp only[reduceCtorEq] at h
    split at h
    rename_i es hb
    split at h
    rename_i es' hf
    cases h
    simp only[za0,beq_iff_eq] at hv
    obtain⟨⟨⟨v1,v2⟩,v4⟩,v5⟩:=hv
    exact ya60 hR ho hc hca hct (hT.1 t (by omega)) v4 (rp hm1 h1 v1) (rp hm2 h2 v2) hb hf (zxe hT v4 v5)
    cases h
    cases h
  cases h
 | _=>rw[ho] at h;simp only[aop,reduceCtorEq] at h
end
end Go.Tm
