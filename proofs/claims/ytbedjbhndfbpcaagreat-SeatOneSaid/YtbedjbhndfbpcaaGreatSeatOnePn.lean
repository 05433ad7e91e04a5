/- Texts of the proof. -/
import Derived.Test.YtbedjbhndfbpcaaGreatSeatOnePm
set_option linter.unusedVariables false
set_option linter.unusedSimpArgs false
namespace Go.Tm
open Go.RowKit Go.WideShapes
def Goes(lim n0:Nat)(st s:St):Prop:=
 ∀(E:En) (n:Nat) (F:FrS) (a:Act) (w:World) (g:Gh),(∀id,n0<=id->id<lim->E.nu0 id=true)->F.on lim st->Rel E n F a w g->∃F' g',F'.on lim s/\Rel E n F' a w g'
theorem Goes.mv{lim n0:Nat}{st s:St}(V H:List Nat)(ps:List (Nat×Nat))(h1:(⟨mvV (mvF ps) (zf5 V st.vars),mvH (mvF ps) (zf5 H st.heap),s.nx⟩:St)=s)(h2:n0<=s.nx)(h3:s.nx<=lim)(h4:mvOk ps n0 s.nx (idsV (zf5 V st.vars)++idsH (zf5 H st.heap))=true):Goes lim n0 st s:=
 fun _ _ _ _ _ _ hE hF hR=>hR.mvTo hF hE ⟨h1,h2,h3,h4⟩
theorem Ok.goes{P:Program}{lim n:Nat}{c:Code}{st s:St}{Q:Exit->St->Prop}(h:Goes lim st.nx st s)(k:Ok P lim n c s Q):Ok P lim n c st Q:=by
 intro E F a w g hF hR
 obtain⟨F',g',hF',hR'⟩:=h E n F a w g (fun id h1 h2=>hR.nu id (hF.2.2 id h1 h2)) hF hR
 exact k E F' a w g' hF' hR'
def cutQ{ι:Type}(lim n0:Nat)(M:ι->St)(Pr:ι->Prop)(Q:Exit->St->Prop):Exit->St->Prop:=fun e s=>match e with|.normal=>∃j,Goes lim n0 s (M j)/\Pr j|e=>Q e s
theorem Ok.seqM{P:Program}{lim n:Nat}{x y:Code}{st:St}{Q:Exit->St->Prop}{ι:Type}(n0:Nat)(M:ι->St)(Pr:ι->Prop)(hn:st.nx<=n0)(h1:Ok P lim n x st (cutQ lim n0 M Pr Q))(h2:∀j,Pr j->Ok P lim n y (M j) Q):Ok P lim n (.seq x y) st Q:=by
 intro E F a w g hF hR
 have hE:∀id,n0<=id->id<lim->E.nu0 id=true:=fun id h1 h2=>hR.nu id (hF.2.2 id (zao hn h1) h2)
 refine wp_seq (wp_mono (h1 E F a w g hF hR) ?_)
 rintro e a' w' ⟨st',F',g',hq,hF',hR'⟩
 cases e with
 |normal=>
  obtain⟨j,h3,h4⟩:=hq
  obtain⟨F2,g2,hF2,hR2⟩:=h3 E n F' a' w' g' hE hF' hR'
  exact h2 j h4 E F2 a' w' g2 hF2 hR2
 |exit id=>exact⟨st',F',g',hq,hF',hR'⟩
 |goto l=>exact⟨st',F',g',hq,hF',hR'⟩
 |ret=>exact⟨st',F',g',hq,hF',hR'⟩
 |panic ch=>exact⟨st',F',g',hq,hF',hR'⟩
 |outgrown=>exact⟨st',F',g',hq,hF',hR'⟩
def yaa0{ι:Type}(lim n0:Nat)(S:ι->St)(Pr:ι->Prop)(μ:ι->Nat)(i:ι)(Q:Exit->St->Prop):Exit->St->Prop:=fun e st'=>match e with|.normal=>∃j,Goes lim n0 st' (S j)/\Pr j/\μ j<μ i|e=>Q e st'
theorem Ok.loopG{P:Program}{lim n:Nat}{c:Code}{st:St}{Q:Exit->St->Prop}{ι:Type}(n0:Nat)(S:ι->St)(Pr:ι->Prop)(μ:ι->Nat)(i0:ι)(hn:st.nx<=n0)(hs:Goes lim n0 st (S i0))(h0:Pr i0)
  (round:∀i,Pr i->Ok P lim n c (S i) (yaa0 lim n0 S Pr μ i Q)):Ok P lim n (.loop c) st Q:=by
 intro E F a w g hF hR b k cs
 have hE:∀id,n0<=id->id<lim->E.nu0 id=true:=fun id h1 h2=>hR.nu id (hF.2.2 id (zao hn h1) h2)
 have key:∀m i,μ i=m->Pr i->∀(F:FrS) (a:Act) (w:World) (g:Gh),F.on lim (S i)->Rel E n F a w g->∃e a' w',(∃st' F' g',Q e st'/\F'.on lim st'/\Rel E n F' a' w' g')/\Arrives P (lone (b.at a (.code c::.inLoop c::k)) cs w) b k cs e a' w':=by
  intro m
  induction m using Nat.strongRecOn with
  | _ m ih=>
   intro i hm hI F a w g hF hR
   obtain⟨e,a₁,w₁,⟨st',F',g',hq,hF',hrel⟩,harr⟩:=round i hI E F a w g hF hR b (.inLoop c::k) cs
   cases e with
   |normal=>
    obtain⟨j,h1,h2,h3⟩:=hq
    obtain⟨F2,g2,hF2,hR2⟩:=h1 E n F' a₁ w₁ g' hE hF' hrel
    obtain⟨e₂,a₂,w₂,hq₂,harr₂⟩:=ih (μ j) (hm▸h3) j rfl h2 F2 a₁ w₁ g2 hF2 hR2
    exact⟨e₂,a₂,w₂,hq₂,.of_steps (Steps.trans harr (.one step_inLoop)) harr₂⟩
   |exit id=>exact⟨_,a₁,w₁,⟨st',F',g',hq,hF',hrel⟩,.pass (x:=.inLoop c) rfl (fun _ _=>.inl (by simp)) harr⟩
   |goto l=>exact⟨_,a₁,w₁,⟨st',F',g',hq,hF',hrel⟩,.pass (x:=.inLoop c) rfl (fun _ _=>.inl (by simp)) harr⟩
   |ret=>exact⟨_,a₁,w₁,⟨st',F',g',hq,hF',hrel⟩,.pass (x:=.inLoop c) rfl (fun _ _=>.inl (by simp)) harr⟩
   |panic ch=>exact⟨_,a₁,w₁,⟨st',F',g',hq,hF',hrel⟩,.pass (x:=.inLoop c) rfl (fun _ _=>.inl (by simp)) harr⟩
   |outgrown=>exact⟨_,a₁,w₁,⟨st',F',g',hq,hF',hrel⟩,.pass (x:=.inLoop c) rfl (fun _ _=>.inl (by simp)) harr⟩
 obtain⟨F1,g1,hF1,hR1⟩:=hs E n F a w g hE hF hR
 obtain⟨e,a',w',hq,harr⟩:=key _ i0 rfl h0 F1 a w g1 hF1 hR1
 exact⟨e,a',w',hq,.of_steps (.one step_loop) harr⟩
theorem za3{α β:Type}{o:Option α}{f:α->Option β}{r:β}(h:o.bind f=some r):∃x,o=some x/\f x=some r:=by
 cases o with
 |none=>cases h
 |some x=>exact⟨x,rfl,h⟩
theorem yaa5{α:Type}{c:Prop}[Decidable c]{a b r:α}(h:(if c then a else b)=r)(hc:c):a=r:=by rw[if_pos hc] at h;exact h
theorem yaaw{α:Type}{c:Prop}[Decidable c]{a b r:α}(h:(if c then a else b)=r)(hc:¬c):b=r:=by rw[if_neg hc] at h;exact h
theorem zbc{α:Type}{c:Prop}[Decidable c]{a:Option α}{r:α}(h:(if c then a else none)=some r):c/\a=some r:=by
 by_cases hc:c
 exact⟨hc,yaa5 h hc⟩
 rw[if_neg hc] at h;cases h
theorem zdr{i n:Nat}(h:i<n)(hn:(n:Int)<=9223372036854775807):wr .i64 ((i:Int)+1)=((i+1:Nat):Int):=
 zj6 _ _ (by show(-9223372036854775808:Int)<=_;omega) (by show _<=(9223372036854775807:Int);omega)
theorem zhf{α:Type}[Inhabited α](f:α->D)(l:List α)(i:Nat)(h:i<l.length):nth (l.map f) i=f (l.getD i default):=by
 rw[zdb f l i h];simp[h]
theorem zdp{α:Type}[Inhabited α](f:α->D)(l:List α)(i:Int)(h:0<=i/\i<(l.length:Int)):nth (l.map f) i.toNat=f (l.getD i.toNat default):=
 zhf f l _ (by omega)
theorem Ok.wf{P:Program}{lim n:Nat}{c:Code}{st:St}{Q:Exit->St->Prop}(t:Nat)(d:D)(hd:getR st.vars t=d)(h:Tm.wf d->Ok P lim n c st Q):Ok P lim n c st Q:=by
 intro E F a w g hF hR
 refine h ?_ E F a w g hF hR
 have:=hR.rd t
 rw[hF.1,hd] at this
 exact ya36 _ _ this
structure Pl {α:Type} (f:α->D):Prop where
 un:∀x,unf (f x)=f x
 ids:∀x,(f x).ids=[]
 ok:∀q,q 0=true->∀x,okM q (f x)=true
theorem zdz(k:IntKind):Pl (D.int k):=⟨fun _=>rfl,fun _=>rfl,fun _ _ _=>rfl⟩
theorem ya9u:Pl (D.int .i64):=zdz _
theorem zf8:Pl D.str:=⟨fun _=>rfl,fun _=>rfl,fun _ _ _=>rfl⟩
section
variable {α : Type} {f : α -> D} (hf : Pl f)
include hf
theorem Pl.unfL(l:List α):Tm.unfL (l.map f)=l.map f:=by
 induction l with
 |nil=>rfl
 |cons x l ih=>simp only[zai,Tm.unfL,hf.un,ih]
theorem Pl.idsL(l:List α):D.idsL (l.map f)=[]:=by
 induction l with
 |nil=>rfl
 |cons x l ih=>simp only[zai,D.idsL,hf.ids,ih,zas]
theorem Pl.okML(q:Nat->Bool)(h:q 0=true)(l:List α):Tm.okML q (l.map f)=true:=by
 induction l with
 |nil=>rfl
 |cons x l ih=>simp only[zai,Tm.okML,hf.ok q h,ih,Bool.and_self]
theorem zaf{hp:Nat->Option Blk}{id s e n:Nat}{oc:Option Nat}{l:List α}(h:hp id=some (.arr e s true (l.map f)))(hn:n=l.length):lend hp (.ref id s 0 n oc)=(.imm s (l.map f) 4,true):=by
 subst hn
 have ht:(l.map f).take l.length=l.map f:=List.take_of_length_le (by simp)
 simp only[lend,h,List.drop_zero,ht,hf.unfL,hf.okML low3 rfl,hf.idsL,List.length_map,Nat.zero_add,Nat.beq_refl,List.isEmpty_nil,Bool.and_true,Bool.true_and,zaa,true_and]
 exact zap (za4 _)
end
theorem zc3{hp:Nat->Option Blk}:zei hp []=([],true):=rfl
theorem za2{hp:Nat->Option Blk}{d d':D}{l l':List D}(h:lend hp d=(d',true))(hl:zei hp l=(l',true)):zei hp (d::l)=(d'::l',true):=by
 simp only[zei,h,hl,Bool.and_self]
theorem ya5i{C:Cx}{s c:Nat}{l:List D}{v:Value}(hc:c<8)(h:rep C (.imm s l c) v):rep C (.imm s l 4) v:=by
 have e:c/8=0:=by omega
 simp only[rep,e] at h ⊢
 obtain⟨a,cap,rfl,h1,h2,_,_,_,h6,_,h7⟩:=h
 exact⟨a,cap,rfl,h1,h2,by simp,by simp,by simp,h6,by simp,h7.imp_right fun h Z hZ=>by obtain⟨a0,e1,e2,e3,e4,e5,e6⟩:=h Z hZ;exact⟨a0,e1,e2,e3,e4,e5.any (by decide),e6⟩⟩
theorem Wk.imm4(s:Nat)(l:List D){c:Nat}(hc:c<8):Wk (.imm s l c) (.imm s l 4):=fun _ _ h=>ya5i hc h
def WkG(d d':D):Prop:=∀(fr:Nat) (w:World) (g:Gh) (hp:Nat->Option Blk) (nu:Nat->Bool),Mem fr w g hp nu->∀v,rep (cx w g hp) d v->rep (cx w g hp) d' v
theorem WkG.of{d d':D}(h:Wk d d'):WkG d d':=fun _ _ _ _ _ _ _ hv=>h _ _ hv
theorem WkG.unk(id s off len:Nat)(oc:Option Nat):WkG (.ref id s off len oc) (.ref id s off len (some uC)):=.of (Wk.unk _ _ _ _ _)
theorem WkG.nil4(s s' c:Nat)(_hc:c/8=0):WkG (.imm s [] c) (.imm s' [] 4):=.of fun C v h=>zsg rfl (by omega) C v h
theorem WkG.nil12(s s' c:Nat)(_hc:c=0\/c=13):WkG (.imm s [] c) (.imm s' [] 13):=by
 intro fr w g hp nu _ v h
 simp only[rep] at h ⊢
 obtain⟨a,cap,rfl,h1,h2,_,_,_,h6,_⟩:=h
 exact⟨a,cap,rfl,h1,h2,by simp,by simp,by simp,h6,fun _=>rfl,.inl trivial⟩
theorem WkG.own0(id s s0 k:Nat)(hk:k%8<=1):WkG (.imm s0 [] k) (.ref id s 0 0 (some uC)):=by
 intro fr w g hp nu _ v h
 simp only[rep] at h ⊢
 obtain⟨ad,cap,rfl,k1,k2,k3,k4,k5,k6,_⟩:=h
 have hc:cap=0:=k5 (.inl hk)
 subst hc
 exact⟨rfl,ad,0,rfl,by simp,by simp,by simp,⟨(fun c h hk=>by cases h;cases hk),(fun h=>by cases h)⟩,.inl rfl⟩
theorem WkG.new4(s:Nat)(l:List D){c:Nat}(hc:c/8=1):WkG (.imm s l c) (.imm s l 4):=by
 intro fr w g hp nu hM v h
 simp only[rep,hc] at h ⊢
 obtain⟨a,cap,rfl,h1,h2,_,_,_,h6,_,h7⟩:=h
 refine⟨a,cap,rfl,h1,h2,by simp,by simp,by simp,h6,by simp,?_⟩
 rcases h7 with h7|h7
 exact .inl h7
 right
 intro Z hZ
 obtain⟨Z1,k1,k2,_⟩:=hM.zs.z1
 obtain⟨a0,ha,hs,hm,hz,hb,he⟩:=h7 Z1 (by simpa[Cx.zone,cx] using k1)
 have:g.Z=Z:=by simpa[Cx.zone,cx] using hZ
 subst this
 exact⟨a0,ha,hs,hm,(k2 _ hz).2,hb.any (by decide),zh2 (C:=(cx w g hp).at Z1) (C':=(cx w g hp).at g.Z) (Cx.Le.inner (C:=cx w g hp) (C':=cx w g hp) (fun _ _=>rfl) fun b e1 e2 _=>⟨e1,(k2 b e2).2,rfl⟩) _ _ _ _ rfl he⟩
theorem Goes.wk{lim n0:Nat}{st s:St}(t:Nat)(d d':D)(hd:getR st.vars t=d)(hw:WkG d d')(h:Goes lim n0 ⟨put st.vars t d',st.heap,st.nx⟩ s):Goes lim n0 st s:=by
 intro E n F a w g hE hF hR
 obtain⟨h1,h2,h3⟩:=hF
 refine h E n ⟨getR (put st.vars t d'),F.hp,F.nu⟩ a w g hE ⟨rfl,h2,h3⟩ ⟨hR.sz,hR.df,fun u=>?_,hR.mem,hR.base,hR.keep,hR.gz,hR.gs,hR.nu⟩
 have hu:=hR.rd u
 show rep (cx w g F.hp) (getR (put st.vars t d') u) _
 rw[h1] at hu
 have hg:getR (put st.vars t d') u=if t=u then d' else getR st.vars u:=by
  unfold getR
  rw[zk2]
  by_cases hh:t=u<;>simp[hh]
 rw[hg]
 by_cases htu:t=u
 subst htu
 rw[if_pos rfl]
 rw[hd] at hu
 exact hw _ _ _ _ _ hR.mem _ hu
 rw[if_neg htu];exact hu
theorem Goes.new0{lim n0:Nat}{st s:St}(s':Nat)(e:TypeId)(hn:st.nx<lim)(h:Goes lim n0 ⟨st.vars,put st.heap st.nx (.arr e s' true []),st.nx+1⟩ s):Goes lim n0 st s:=by
 intro E n F a w g hE hF hR
 obtain⟨h1,h2,h3⟩:=hF
 have hnu:F.nu st.nx=true:=h3 st.nx (za4 _) hn
 obtain⟨g1,_⟩:=Rel.made hR (m:=st.nx) (blk:=.arr e s' true []) (loc:=none) (kl:=none) (w':=w) hnu ((Keep.refl _ w).mono fun _ _ h=>h) (by rintro b o h;cases h) (by
  intro C hC hle hrf hσ
  exact .inl ⟨rfl,hσ⟩)
 have hp:effH F.hp ((st.nx,some (.arr e s' true []))::kill none)=getL (put st.heap st.nx (.arr e s' true [])):=by
  funext i
  rw[zk2,h2]
  simp only[effH,kill,getL]
  by_cases hi:st.nx=i
  subst hi;simp
  simp[zbq hi,hi]
 refine h E n ⟨F.rd,(F.eff ((st.nx,some (.arr e s' true []))::kill none) (st.nx,st.nx+1)).hp,(F.eff ((st.nx,some (.arr e s' true []))::kill none) (st.nx,st.nx+1)).nu⟩ a w (setσ g st.nx none) hE ⟨h1,hp,fun id k1 k2=>?_⟩ ⟨g1.sz,g1.df,g1.rd,g1.mem,g1.base,g1.keep,g1.gz,g1.gs,g1.nu⟩
 have k1:st.nx+1<=id:=k1
 have:=h3 id (by omega) k2
 simp only[FrS.eff,effN,this,Bool.true_and,Bool.not_eq_true',Bool.and_eq_false_iff,decide_eq_false_iff_not]
 right
 omega
theorem Ok.ends{P:Program}{lim n:Nat}{c:Code}{st:St}{Q:Exit->St->Prop}(n0:Nat)(hn:st.nx<=n0)(h:Ok P lim n c st fun e s=>∃s',Goes lim n0 s s'/\Q e s'):Ok P lim n c st Q:=by
 intro E F a w g hF hR
 have hE:∀id,n0<=id->id<lim->E.nu0 id=true:=fun id h1 h2=>hR.nu id (hF.2.2 id (zao hn h1) h2)
 refine wp_mono (h E F a w g hF hR) ?_
 rintro e a' w' ⟨st',F',g',⟨s',h1,h2⟩,hF',hR'⟩
 obtain⟨F2,g2,hF2,hR2⟩:=h1 E n F' a' w' g' hE hF' hR'
 exact⟨s',F2,g2,h2,hF2,hR2⟩
theorem ya0h{hp:Nat->Option Blk}{l l':List D}(h:zei hp l=(l',true)):lend hp (.agg l)=(.agg l',true):=by simp only[lend,h]
theorem zhk{hp:Nat->Option Blk}{d d':D}(h:lend hp d=(d',true))(hd:match d with|.ptr _ _=>False|.fn _ _=>False| _=>True):zft hp d=(d',true):=by
 cases d<;>first|exact hd.elim|(simp only[zft];exact h)
theorem zcc{hp:Nat->Option Blk}{id off:Nat}{cells cells':List D}(hb:hp id=some (.box cells))(h:zei hp cells=(cells',true)):zft hp (.ptr id off)=(.iptr 0 (cells'.drop off),true):=by simp only[zft,hb,h]
theorem zk0{hp:Nat->Option Blk}{f:Fn}{l l':List D}(h:zex hp l=(l',true)):zft hp (.fn f l)=(.fn f l',true):=by simp only[zft,h]
theorem zaj{hp:Nat->Option Blk}:zex hp []=([],true):=rfl
theorem za9{hp:Nat->Option Blk}{d d':D}{l l':List D}(h:zft hp d=(d',true))(hl:zex hp l=(l',true)):zex hp (d::l)=(d'::l',true):=by
 simp only[zex,h,hl,Bool.and_self]
theorem ya7p{α:Type}{f:α->D}(hf:Pl f)(hk:∀l:List α,okML new1 (l.map f)=true){hp:Nat->Option Blk}{id s e n:Nat}{oc:Option Nat}{l:List α}(h:hp id=some (.arr e s true (l.map f)))(hn:n=l.length):frz hp (.ref id s 0 n oc)=(.imm s (l.map f) 13,true):=by
 subst hn
 have ht:(l.map f).take l.length=l.map f:=List.take_of_length_le (by simp)
 simp only[frz,h,List.drop_zero,ht,hf.unfL,hk,hf.idsL,List.length_map,Nat.zero_add,Nat.beq_refl,List.isEmpty_nil,Bool.and_true,Bool.true_and,zaa,true_and]
 exact zap (za4 _)
theorem zkp{hp:Nat->Option Blk}{l l':List D}(h:frzs hp l=(l',true)):frz hp (.agg l)=(.agg l',true):=by simp only[frz,h]
theorem zmj{hp:Nat->Option Blk}{l l':List D}(h:frzs hp l=(l',true)):frz hp (.tuple l)=(.tuple l',true):=by simp only[frz,h]
theorem zep{hp:Nat->Option Blk}:frzs hp []=([],true):=rfl
theorem za8{hp:Nat->Option Blk}{d d':D}{l l':List D}(h:frz hp d=(d',true))(hl:frzs hp l=(l',true)):frzs hp (d::l)=(d'::l',true):=by
 simp only[frzs,h,hl,Bool.and_self]
structure Pl0 {α:Type} (f:α->D):Prop extends Pl f where
 no:∀q x,okM q (f x)=true
theorem Pl0.okML{α:Type}{f:α->D}(hf:Pl0 f)(q:Nat->Bool)(l:List α):Tm.okML q (l.map f)=true:=by
 induction l with
 |nil=>rfl
 |cons x l ih=>simp only[zai,Tm.okML,hf.no q,ih,Bool.and_self]
theorem zbt:Pl0 (D.int .i64):=⟨ya9u,fun _ _=>rfl⟩
theorem zfi:Pl0 D.str:=⟨zf8,fun _ _=>rfl⟩
theorem zbd{α:Type}{f:α->D}(hf:Pl0 f){hp:Nat->Option Blk}{id s e n:Nat}{oc:Option Nat}{l:List α}(h:hp id=some (.arr e s true (l.map f)))(hn:n=l.length):frz hp (.ref id s 0 n oc)=(.imm s (l.map f) 13,true):=ya7p hf.toPl (hf.okML new1) h hn
theorem zbb{α:Type}{f:α->D}(hf:Pl0 f)(e s:Nat)(l:List α):newB (some (.arr e s true (l.map f)))=true:=by simp only[newB,hf.okML,Bool.and_self]
theorem zay{nw:Nat×Nat}{i:Nat}{b:Option Blk}{r:List (Nat×Option Blk)}(h1:Nat.ble nw.1 i=true)(h2:Nat.blt i nw.2=true)(h3:newB b=true)(h4:newE nw r=true):newE nw ((i,b)::r)=true:=by simp only[newE,h1,h2,h3,h4,Bool.and_self]
theorem zd5{nw:Nat×Nat}:newE nw []=true:=rfl
theorem zcu{P:Program}{K:FuncId}{args:List D}{r:D}{eff:List (Nat×Option Blk)}{m:Nat}(n:Nat)(hn:m<=n)(h:zbv P K args [] r eff (0,m)):zbv P K (D.renL (bsw 0 n m) args) [] (r.ren (bsw 0 n m)) (renE (bsw 0 n m) eff) (n,n+m):=by
 refine zq0 (π:=bsw 0 n m) (zzi (by omega)) (n,n+m) (fun id h1 h2=>?_) h
 have h2:id<m:=h2
 have e:(Nat.ble 0 id&&Nat.blt id (0+m))=true:=by
  simp only[za0]
  exact⟨zap (Nat.zero_le _),zap (by omega)⟩
 simp only[bsw,e,cond_true]
 omega
theorem Ok.wfb{P:Program}{lim n:Nat}{c:Code}{st:St}{Q:Exit->St->Prop}(id:Nat)(cells:List D)(hd:getL st.heap id=some (.box cells))(h:wfL cells->Ok P lim n c st Q):Ok P lim n c st Q:=by
 intro E F a w g hF hR
 refine h ?_ E F a w g hF hR
 obtain⟨b,cs,T,_,_,e3,_⟩:=hR.mem.hd id (.box cells) (by rw[hF.2.1];exact hd)
 exact zsd _ _ e3
theorem Ok.nil4{P:Program}{lim n:Nat}{c:Code}{st:St}{Q:Exit->St->Prop}(t s:Nat)(l:List D)(hd:getR st.vars t=.imm s l 4)(h1:Ok P lim n c ⟨put st.vars t (.imm s l 2),st.heap,st.nx⟩ Q)(h2:l=[]->Ok P lim n c ⟨put st.vars t (.imm s l 0),st.heap,st.nx⟩ Q):Ok P lim n c st Q:=by
 intro E F a w g hF hR
 have hr:=hR.rd t
 rw[hF.1,hd] at hr
 have key:∀d',rep (cx w g F.hp) d' (a.eval (.tmp t))->Rel E n ⟨getR (put st.vars t d'),F.hp,F.nu⟩ a w g:=by
  intro d' hd'
  refine⟨hR.sz,hR.df,fun u=>?_,hR.mem,hR.base,hR.keep,hR.gz,hR.gs,hR.nu⟩
  have hu:=hR.rd u
  show rep (cx w g F.hp) (getR (put st.vars t d') u) _
  rw[hF.1] at hu
  have hg:getR (put st.vars t d') u=if t=u then d' else getR st.vars u:=by
   unfold getR
   rw[zk2]
   by_cases hh:t=u<;>simp[hh]
  rw[hg]
  by_cases htu:t=u
  subst htu
  rw[if_pos rfl]
  exact hd'
  rw[if_neg htu];exact hu
 rcases zvk _ _ hr with h|⟨hl,h⟩
 exact h1 E ⟨getR (put st.vars t (.imm s l 2)),F.hp,F.nu⟩ a w g ⟨rfl,hF.2.1,hF.2.2⟩ (key _ h)
 exact h2 hl E ⟨getR (put st.vars t (.imm s l 0)),F.hp,F.nu⟩ a w g ⟨rfl,hF.2.1,hF.2.2⟩ (key _ h)
theorem ze3{i n:Nat}(h:i<n)(hn:(n:Int)<=9223372036854775807):wr .i64 ((i:Int)-1)=(i:Int)-1:=
 zj6 _ _ (by show(-9223372036854775808:Int)<=_;omega) (by show _<=(9223372036854775807:Int);omega)
theorem ya16(i:Nat):((i:Int)-1).toNat=i-1:=by omega
theorem ya3k{α:Type}[Inhabited α](f:α->D)(l:List α)(n:Nat):nth (l.map f) n=f (l.getD n default)\/nth (l.map f) n=.undef:=by
 by_cases h:n<l.length
 exact .inl (zhf f l n h)
 right
 unfold nth
 simp[Nat.le_of_not_lt h]
mutual
theorem zn9(f:Nat->Nat):∀d:D,d.ids=[]->d.ren f=d
 |.agg l,h=>by simp only[D.ren,zlq f l (by simpa only[D.ids] using h)]
 |.tuple l,h=>by simp only[D.ren,zlq f l (by simpa only[D.ids] using h)]
 |.fn g l,h=>by simp only[D.ren,zlq f l (by simpa only[D.ids] using h)]
 |.iface t d,h=>by simp only[D.ren,zn9 f d (by simpa only[D.ids] using h)]
 |.when c d,h=>by simp only[D.ren,zn9 f d (by simpa only[D.ids] using h)]
 |.ref _ _ _ _ _,h|.ptr _ _,h|.eptr _ _ _ _,h|.mref _,h=>by simp[D.ids] at h
 |.bool _,_|.int _ _,_|.str _,_|.imm _ _ _,_|.iptr _ _,_|.nilptr,_|.nilfn,_|.nilIface,_|.nilmap,_|.sc,_|.undef,_=>by simp only[D.ren]
theorem zlq(f:Nat->Nat):∀l:List D,D.idsL l=[]->D.renL f l=l
 |[],_=>by simp only[D.renL]
 |d::ds,h=>by
  simp only[D.idsL,List.append_eq_nil_iff] at h
  simp only[D.renL,zn9 f d h.1,zlq f ds h.2]
end
theorem zdf{l:List D}(h:∀hp,zei hp l=(l,true)):D.idsL l=[]:=by
 have:=(zj9 (hp:=fun _=>none) l (by rw[h])).2.1
 rwa [h] at this
theorem zdk{l:List D}(h:∀hp,zei hp l=(l,true))(f:Nat->Nat):D.renL f l=l:=zlq f l (zdf h)
theorem zkb{α:Type}(l:List α):l=[]\/∃y ys,l=y::ys:=by
 cases l with
 |nil=>exact .inl rfl
 |cons y ys=>exact .inr ⟨y,ys,rfl⟩
theorem ze6{hp:Nat->Option Blk}{nid el esz eby s c:Nat}{xs:List D}{px vx:Bool}(h:xs=[]):zat hp nid el esz eby (.imm s [] c) xs px vx=some ⟨.imm esz [] c,vx,[],(0,0),[]⟩:=by subst h;rfl
theorem zfo{hp:Nat->Option Blk}{nid el esz eby s c:Nat}{xs:List D}{px vx:Bool}(h:xs≠[]):zat hp nid el esz eby (.imm s [] c) xs px vx=some ⟨.ref nid esz 0 xs.length none,vx&&(Nat.ble (c%8) 1||Nat.beq (c%8) 3)&&decide (xs.length*eby<=140737488355328),[(nid,some (.arr el esz px xs))],(nid,nid+1),[]⟩:=by
 cases xs with
 |nil=>exact absurd rfl h
 |cons x xs=>rfl
theorem zfm{α β:Type}(f:α->β)(l:List α)(i:Nat):(l.map f).drop i=(l.drop i).map f:=List.map_drop.symm
theorem zfd{α β:Type}(f:α->β)(l:List α)(i:Nat):(l.map f).take i=(l.take i).map f:=List.map_take.symm
theorem zdj{α β:Type}(f:α->β)(l:List α):(l.map f).take l.length=l.map f:=by rw[zfd,List.take_length]
theorem Wk.nil4(s s' c:Nat)(_hc:c/8=0):Wk (.imm s [] c) (.imm s' [] 4):=fun C v h=>zsg rfl (by omega) C v h
theorem ya64{P:Program}{K:FuncId}{args args':List D}{H:List (Nat×Blk)}{r:D}{eff:List (Nat×Option Blk)}{nw:Nat×Nat}(h:WkL args args')(hK:zbv P K args' H r eff nw):zbv P K args H r eff nw:=
 ⟨hK.1,fun fr w g hp nu vs a1 a2 a3 hvs=>hK.2 fr w g hp nu vs a1 a2 a3 (h _ _ hvs)⟩
theorem zh6{ops:Array Oper}{fps:Nat->FP}(h:((List.range ops.size).all fun i=>(List.range i).all fun j=>anc ops ops.size i j||okFP (fps j) (fps i))=true):zl5 ops fps=true:=by
 unfold zl5
 rw[<-h]
 congr 1
 funext i
 congr 1
 funext j
 rw[Bool.or_comm]
end Go.Tm
namespace Go.Tm
structure Seat (P:Program) (tab:Nat->TI):Prop where
 tm:zhz P tab
 mixed:P.follows .mixedOrders=true
section
variable {P : Program} {tab : Nat -> TI} {lim n : Nat}
theorem Ok.pl{id:Nat}{ops:Array Oper}{st st':St}{vc:Bool}{acc:List FP}{Q:Exit->St->Prop}(S:Seat P tab)(V:List Nat)(hQ:Q .normal st')(hok:zjl n ops false=true:=by decide+kernel)
  (h:zk8 (runE tab true false ops.toList ops.toList ⟨keep V st.vars,st.heap,st.nx⟩ true []) st' vc acc []:=by intro q hq;simp only[go_sem,Nat.reduceSub,Int.reduceEq,Nat.reduceLT,Nat.reduceDiv,Nat.reduceAdd,Nat.reduceBEq,Nat.reduceLeDiff,reduceCtorEq,Nat.reduceEqDiff,Nat.reduceMod,Nat.reduceMul,zat];exact hq)
  (hv:vc=true:=by first|rfl|(simp only[go_sem,Nat.reduceLeDiff];done)|(simp only[go_sem,Nat.reduceLeDiff];rfl)|(simp;done)|(simp[oneD]<;>omega)|(simp_all;done)|(simp_all[oneD]<;>omega)) (hlim:st'.nx<=lim:=by first|exact za4 _|exact lb rfl|(dsimp only;omega)|(simp<;>omega)):Ok P lim n (.region id ops false) st Q:=
 .plain S.tm S.mixed V hok h hv hlim hQ
theorem Ok.plx{X:Prop}{id:Nat}{ops:Array Oper}{st st':St}{vc:Bool}{acc:List FP}{Q:Exit->St->Prop}(S:Seat P tab)(x:X)(V:List Nat)(hQ:Q .normal st')(hok:zjl n ops false=true:=by decide+kernel)
  (h:X->zk8 (runE tab true false ops.toList ops.toList ⟨keep V st.vars,st.heap,st.nx⟩ true []) st' vc acc []:=by intro x q hq;simp only[go_sem,Nat.reduceSub,Int.reduceEq,Nat.reduceLT,Nat.reduceDiv,Nat.reduceAdd,Nat.reduceBEq,Nat.reduceLeDiff,reduceCtorEq,Nat.reduceEqDiff,Nat.reduceMod,Nat.reduceMul,zat,x];exact hq)
  (hv:vc=true:=by first|rfl|(simp only[go_sem,Nat.reduceLeDiff];done)|(simp only[go_sem,Nat.reduceLeDiff];rfl)|(simp;done)|(simp[oneD]<;>omega)|(simp_all;done)|(simp_all[oneD]<;>omega)) (hlim:st'.nx<=lim:=by first|exact za4 _|exact lb rfl|(dsimp only;omega)|(simp<;>omega)):Ok P lim n (.region id ops false) st Q:=
 .plain S.tm S.mixed V hok (h x) hv hlim hQ
theorem Ok.dr{id:Nat}{ops:Array Oper}{st st':St}{vc:Bool}{acc:List FP}{Q:Exit->St->Prop}(S:Seat P tab)(V:List Nat)(hQ:Q .normal st')(hok:zjl n ops true=true:=by decide+kernel)
  (h:zk8 (runE tab true true ops.toList ops.toList ⟨keep V st.vars,st.heap,st.nx⟩ true []) st' vc acc []:=by intro q hq;simp only[go_sem,Nat.reduceSub,Int.reduceEq,Nat.reduceLT,Nat.reduceDiv,Nat.reduceAdd,Nat.reduceBEq,Nat.reduceLeDiff,reduceCtorEq,Nat.reduceEqDiff,Nat.reduceMod,Nat.reduceMul,zat];exact hq)
  (hs:zl5 ops (fun i=>(acc[i]?).getD zl7)=true:=by exact zh6 (by kernel_rfl))
  (hv:vc=true:=by first|rfl|(simp only[go_sem,Nat.reduceLeDiff];done)|(simp only[go_sem,Nat.reduceLeDiff];rfl)|(simp;done)|(simp[oneD]<;>omega)|(simp_all;done)|(simp_all[oneD]<;>omega)) (hlim:st'.nx<=lim:=by first|exact za4 _|exact lb rfl|(dsimp only;omega)|(simp<;>omega)):Ok P lim n (.region id ops true) st Q:=
 .drawn S.tm S.mixed V hok h hs hv hlim hQ
theorem Ok.drx{X:Prop}{id:Nat}{ops:Array Oper}{st st':St}{vc:Bool}{acc:List FP}{Q:Exit->St->Prop}(S:Seat P tab)(x:X)(V:List Nat)(hQ:Q .normal st')(hok:zjl n ops true=true:=by decide+kernel)
  (h:X->zk8 (runE tab true true ops.toList ops.toList ⟨keep V st.vars,st.heap,st.nx⟩ true []) st' vc acc []:=by intro x q hq;simp only[go_sem,Nat.reduceSub,Int.reduceEq,Nat.reduceLT,Nat.reduceDiv,Nat.reduceAdd,Nat.reduceBEq,Nat.reduceLeDiff,reduceCtorEq,Nat.reduceEqDiff,Nat.reduceMod,Nat.reduceMul,zat,x];exact hq)
  (hs:zl5 ops (fun i=>(acc[i]?).getD zl7)=true:=by exact zh6 (by kernel_rfl))
  (hv:vc=true:=by first|rfl|(simp only[go_sem,Nat.reduceLeDiff];done)|(simp only[go_sem,Nat.reduceLeDiff];rfl)|(simp;done)|(simp[oneD]<;>omega)|(simp_all;done)|(simp_all[oneD]<;>omega)) (hlim:st'.nx<=lim:=by first|exact za4 _|exact lb rfl|(dsimp only;omega)|(simp<;>omega)):Ok P lim n (.region id ops true) st Q:=
 .drawn S.tm S.mixed V hok (h x) hs hv hlim hQ
theorem Ok.rg{id:Nat}{ops:Array Oper}{draw:Bool}{st:St}{Q:Exit->St->Prop}(S:Seat P tab)(V:List Nat)(h:RegA P tab true lim ops draw ⟨keep V st.vars,st.heap,st.nx⟩ (Q .normal))(hok:zjl n ops draw=true:=by decide+kernel):Ok P lim n (.region id ops draw) st Q:=Ok.region S.tm S.mixed V hok h
theorem WRun.rn{ops:Array Oper}(k:Nat){l l':List Oper}{st st':St}{acc acc':List FP}{Q:St->List FP->Prop}{vc:Bool}
  (hQ:WRun P tab true lim ops l' st' acc' Q) (hdr:false=true\/∀st a b,Q st a->Q st b:=by exact .inr fun _ _ _ h=>⟨nofun,h.2⟩)
  (h:zk8 (runK tab true false ops.toList k l st true acc) st' vc acc' l':=by intro q hq;simp only[go_sem,Nat.reduceSub,Int.reduceEq,Nat.reduceLT,Nat.reduceDiv,Nat.reduceAdd,Nat.reduceBEq,Nat.reduceLeDiff,reduceCtorEq,Nat.reduceEqDiff,Nat.reduceMod,Nat.reduceMul,zat];exact hq) (hv:vc=true:=by first|rfl|(simp only[go_sem,Nat.reduceLeDiff];done)|(simp only[go_sem,Nat.reduceLeDiff];rfl)|(simp;done)|(simp[oneD]<;>omega)|(simp_all;done)|(simp_all[oneD]<;>omega)) (hlim:st'.nx<=lim:=by first|exact za4 _|exact lb rfl|(dsimp only;omega)|(simp<;>omega)):WRun P tab true lim ops l st acc Q:=
 WRun.EN k h.eq hdr hv hlim hQ
theorem WRun.rnx{X:Prop}{ops:Array Oper}(k:Nat){l l':List Oper}{st st':St}{acc acc':List FP}{Q:St->List FP->Prop}{vc:Bool}(x:X)
  (hQ:WRun P tab true lim ops l' st' acc' Q) (hdr:false=true\/∀st a b,Q st a->Q st b:=by exact .inr fun _ _ _ h=>⟨nofun,h.2⟩)
  (h:X->zk8 (runK tab true false ops.toList k l st true acc) st' vc acc' l':=by intro x q hq;simp only[go_sem,Nat.reduceSub,Int.reduceEq,Nat.reduceLT,Nat.reduceDiv,Nat.reduceAdd,Nat.reduceBEq,Nat.reduceLeDiff,reduceCtorEq,Nat.reduceEqDiff,Nat.reduceMod,Nat.reduceMul,zat,x];exact hq) (hv:vc=true:=by first|rfl|(simp only[go_sem,Nat.reduceLeDiff];done)|(simp only[go_sem,Nat.reduceLeDiff];rfl)|(simp;done)|(simp[oneD]<;>omega)|(simp_all;done)|(simp_all[oneD]<;>omega)) (hlim:st'.nx<=lim:=by first|exact za4 _|exact lb rfl|(dsimp only;omega)|(simp<;>omega)):WRun P tab true lim ops l st acc Q:=
 WRun.EN k (h x).eq hdr hv hlim hQ
theorem WRun.rd{ops:Array Oper}(k:Nat){l l':List Oper}{st st':St}{acc acc':List FP}{Q:St->List FP->Prop}{vc:Bool}
  (hQ:WRun P tab true lim ops l' st' acc' Q)
  (h:zk8 (runK tab true true ops.toList k l st true acc) st' vc acc' l':=by intro q hq;simp only[go_sem,Nat.reduceSub,Int.reduceEq,Nat.reduceLT,Nat.reduceDiv,Nat.reduceAdd,Nat.reduceBEq,Nat.reduceLeDiff,reduceCtorEq,Nat.reduceEqDiff,Nat.reduceMod,Nat.reduceMul,zat];exact hq) (hv:vc=true:=by first|rfl|(simp only[go_sem,Nat.reduceLeDiff];done)|(simp only[go_sem,Nat.reduceLeDiff];rfl)|(simp;done)|(simp[oneD]<;>omega)|(simp_all;done)|(simp_all[oneD]<;>omega)) (hlim:st'.nx<=lim:=by first|exact za4 _|exact lb rfl|(dsimp only;omega)|(simp<;>omega)):WRun P tab true lim ops l st acc Q:=
 WRun.EN k h.eq (.inl rfl) hv hlim hQ
theorem WRun.rdx{X:Prop}{ops:Array Oper}(k:Nat){l l':List Oper}{st st':St}{acc acc':List FP}{Q:St->List FP->Prop}{vc:Bool}(x:X)
  (hQ:WRun P tab true lim ops l' st' acc' Q)
  (h:X->zk8 (runK tab true true ops.toList k l st true acc) st' vc acc' l':=by intro x q hq;simp only[go_sem,Nat.reduceSub,Int.reduceEq,Nat.reduceLT,Nat.reduceDiv,Nat.reduceAdd,Nat.reduceBEq,Nat.reduceLeDiff,reduceCtorEq,Nat.reduceEqDiff,Nat.reduceMod,Nat.reduceMul,zat,x];exact hq) (hv:vc=true:=by first|rfl|(simp only[go_sem,Nat.reduceLeDiff];done)|(simp only[go_sem,Nat.reduceLeDiff];rfl)|(simp;done)|(simp[oneD]<;>omega)|(simp_all;done)|(simp_all[oneD]<;>omega)) (hlim:st'.nx<=lim:=by first|exact za4 _|exact lb rfl|(dsimp only;omega)|(simp<;>omega)):WRun P tab true lim ops l st acc Q:=
 WRun.EN k (h x).eq (.inl rfl) hv hlim hQ
end
theorem zab{α:Type}{b c:Prop}[Decidable c]{x y r:α}(h:(if c then x else y)=r)(hb:b)(hc:b->c:=by intro hb;first|exact hb|(simp at hb ⊢;done)|(simp at hb ⊢;exact hb)|(simp at hb ⊢;omega)|(simp at hb ⊢;grind)|grind):x=r:=yaa5 h (hc hb)
theorem zae{α:Type}{b c:Prop}[Decidable c]{x y r:α}(h:(if c then x else y)=r)(hb:b)(hc:b->¬c:=by intro hb;first|exact hb|(simp at hb ⊢;done)|(simp at hb ⊢;exact hb)|(simp at hb ⊢;omega)|(simp at hb ⊢;grind)|grind):y=r:=yaaw h (hc hb)
theorem gd{b p:Prop}(hg:b)(h:b->p:=by intro hg;first|(simp only[opds,opd,ev,zu9,getR,getL,Nat.beq,cond_true,cond_false,Bool.not_true,Bool.false_or,Bool.and_true,Bool.true_and,zaa,true_and];done)|(simp only[opds,opd,ev,zu9,getR,getL,Nat.beq,cond_true,cond_false,Bool.not_true,Bool.false_or,Bool.and_true,Bool.true_and,zaa,true_and];first|exact hg|(simp at hg ⊢;done)|(simp at hg ⊢;exact hg)|(simp at hg ⊢;grind))|rfl):p:=h hg
theorem rsi0{tab:Nat->TI}{st:St}{l:List ResultVar}{r:D}(h:zmq tab st l r:=by simp only[zmq,resL,resD,resT,go_sem,Nat.reduceSub,Int.reduceEq,Nat.reduceLT,Nat.reduceDiv,Nat.reduceAdd,Nat.reduceBEq,Nat.reduceLeDiff,reduceCtorEq,Nat.reduceEqDiff,Nat.reduceMod,Nat.reduceMul,zat]):zmq tab st l r:=h
theorem rsi{tab:Nat->TI}{st:St}{l:List ResultVar}{r:D}(h:zmq tab st l r:=by simp only[zmq,resL,resD,resT,go_sem,Nat.reduceSub,Int.reduceEq,Nat.reduceLT,Nat.reduceDiv,Nat.reduceAdd,Nat.reduceBEq,Nat.reduceLeDiff,reduceCtorEq,Nat.reduceEqDiff,Nat.reduceMod,Nat.reduceMul,zat]):∃ds,resL tab st l=some (ds,true)/\resT ds=r:=h.to
theorem Goes.m{lim n0:Nat}{st s:St}(V H:List Nat)(ps:List (Nat×Nat))(h1:(⟨mvV (mvF ps) (zf5 V st.vars),mvH (mvF ps) (zf5 H st.heap),s.nx⟩:St)=s:=by first|with_reducible rfl|(simp only[go_sem,Nat.reduceBEq,Nat.reduceAdd];done)|(simp only[go_sem,Nat.reduceBEq,Nat.reduceAdd];with_reducible rfl)|rfl|(simp only[go_sem,Nat.reduceBEq,Nat.reduceAdd];rfl))
  (h2:n0<=s.nx:=by exact lb rfl) (h3:s.nx<=lim:=by exact lb rfl) (h4:mvOk ps n0 s.nx (idsV (zf5 V st.vars)++idsH (zf5 H st.heap))=true:=by kernel_rfl):Goes lim n0 st s:=.mv V H ps h1 h2 h3 h4
theorem Goes.mx{X:Prop}{lim n0:Nat}{st s:St}(x:X)(V H:List Nat)(ps:List (Nat×Nat))(h1:X->(⟨mvV (mvF ps) (zf5 V st.vars),mvH (mvF ps) (zf5 H st.heap),s.nx⟩:St)=s:=by intro x;first|with_reducible rfl|(simp only[x,go_sem,Nat.reduceBEq,Nat.reduceAdd,Bool.false_and,Bool.true_or,Bool.and_false];done)|(simp only[x,go_sem,Nat.reduceBEq,Nat.reduceAdd,Bool.false_and,Bool.true_or,Bool.and_false];with_reducible rfl)|rfl|(simp only[x,go_sem,Nat.reduceBEq,Nat.reduceAdd,Bool.false_and,Bool.true_or,Bool.and_false];rfl))
  (h2:n0<=s.nx:=by exact lb rfl) (h3:s.nx<=lim:=by exact lb rfl) (h4:mvOk ps n0 s.nx (idsV (zf5 V st.vars)++idsH (zf5 H st.heap))=true:=by kernel_rfl):Goes lim n0 st s:=.mv V H ps (h1 x) h2 h3 h4
theorem apn{xs:List D}(h:xs=[]):∀(hp:Nat->Option Blk) (nid el esz eby s c:Nat) (px vx:Bool),zat hp nid el esz eby (.imm s [] c) xs px vx=some ⟨.imm esz [] c,vx,[],(0,0),[]⟩:=fun _ _ _ _ _ _ _ _ _=>ze6 h
theorem apc{xs:List D}(h:xs≠[]):∀(hp:Nat->Option Blk) (nid el esz eby s c:Nat) (px vx:Bool),zat hp nid el esz eby (.imm s [] c) xs px vx=some ⟨.ref nid esz 0 xs.length none,vx&&(Nat.ble (c%8) 1||Nat.beq (c%8) 3)&&decide (xs.length*eby<=140737488355328),[(nid,some (.arr el esz px xs))],(nid,nid+1),[]⟩:=fun _ _ _ _ _ _ _ _ _=>zfo h
section
variable {P : Program} {tab : Nat -> TI} {lim n : Nat}
theorem Ok.pp{id:Nat}{ops:Array Oper}{st st':St}{vc:Bool}{acc:List FP}{Q:Exit->St->Prop}(S:Seat P tab)(V:List Nat)
  (h:zk8 (runE tab true false ops.toList ops.toList ⟨keep V st.vars,st.heap,st.nx⟩ true []) st' vc acc []) (hQ:Q .normal st') (hok:zjl n ops false=true:=by decide+kernel)
  (hv:vc=true:=by first|rfl|(simp only[go_sem,Nat.reduceLeDiff];done)|(simp only[go_sem,Nat.reduceLeDiff];rfl)|(simp;done)|(simp[oneD]<;>omega)|(simp_all;done)|(simp_all[oneD]<;>omega)) (hlim:st'.nx<=lim:=by first|exact za4 _|exact lb rfl|(dsimp only;omega)|(simp<;>omega)):Ok P lim n (.region id ops false) st Q:=
 .plain S.tm S.mixed V hok h hv hlim hQ
theorem Ok.px{X:Prop}{id:Nat}{ops:Array Oper}{st st':St}{vc:Bool}{acc:List FP}{Q:Exit->St->Prop}(S:Seat P tab)(x:X)(V:List Nat)(hQ:Q .normal st')(hok:zjl n ops false=true:=by decide+kernel)
  (h:X->zk8 (runE tab true false ops.toList ops.toList ⟨keep V st.vars,st.heap,st.nx⟩ true []) st' vc acc []:=by intro x q hq;simp only[go_sem,Nat.reduceSub,Int.reduceEq,Nat.reduceLT,Nat.reduceDiv,Nat.reduceAdd,Nat.reduceBEq,Nat.reduceLeDiff,reduceCtorEq,Nat.reduceEqDiff,Nat.reduceMod,Nat.reduceMul,x];exact hq)
  (hv:vc=true:=by first|rfl|(simp only[go_sem,Nat.reduceLeDiff];done)|(simp only[go_sem,Nat.reduceLeDiff];rfl)|(simp;done)|(simp[oneD]<;>omega)|(simp_all;done)|(simp_all[oneD]<;>omega)) (hlim:st'.nx<=lim:=by first|exact za4 _|exact lb rfl|(dsimp only;omega)|(simp<;>omega)):Ok P lim n (.region id ops false) st Q:=
 .plain S.tm S.mixed V hok (h x) hv hlim hQ
theorem Ok.dx{X:Prop}{id:Nat}{ops:Array Oper}{st st':St}{vc:Bool}{acc:List FP}{Q:Exit->St->Prop}(S:Seat P tab)(x:X)(V:List Nat)(hQ:Q .normal st')(hok:zjl n ops true=true:=by decide+kernel)
  (h:X->zk8 (runE tab true true ops.toList ops.toList ⟨keep V st.vars,st.heap,st.nx⟩ true []) st' vc acc []:=by intro x q hq;simp only[go_sem,Nat.reduceSub,Int.reduceEq,Nat.reduceLT,Nat.reduceDiv,Nat.reduceAdd,Nat.reduceBEq,Nat.reduceLeDiff,reduceCtorEq,Nat.reduceEqDiff,Nat.reduceMod,Nat.reduceMul,x];exact hq)
  (hs:zl5 ops (fun i=>(acc[i]?).getD zl7)=true:=by exact zh6 (by kernel_rfl))
  (hv:vc=true:=by first|rfl|(simp only[go_sem,Nat.reduceLeDiff];done)|(simp only[go_sem,Nat.reduceLeDiff];rfl)|(simp;done)|(simp[oneD]<;>omega)|(simp_all;done)|(simp_all[oneD]<;>omega)) (hlim:st'.nx<=lim:=by first|exact za4 _|exact lb rfl|(dsimp only;omega)|(simp<;>omega)):Ok P lim n (.region id ops true) st Q:=
 .drawn S.tm S.mixed V hok (h x) hs hv hlim hQ
theorem WRun.rx{X1 X2 X3 X4:Prop}{ops:Array Oper}(k:Nat){l l':List Oper}{st st':St}{acc acc':List FP}{Q:St->List FP->Prop}{vc:Bool}(x1:X1)(x2:X2)(x3:X3)(x4:X4)
  (hQ:WRun P tab true lim ops l' st' acc' Q)
  (h:X1->X2->X3->X4->zk8 (runK tab true true ops.toList k l st true acc) st' vc acc' l':=by intro x1 x2 x3 x4 q hq;simp only[go_sem,Nat.reduceSub,Int.reduceEq,Nat.reduceLT,Nat.reduceDiv,Nat.reduceAdd,Nat.reduceBEq,Nat.reduceLeDiff,reduceCtorEq,Nat.reduceEqDiff,Nat.reduceMod,Nat.reduceMul,x1,x2,x3,x4];exact hq)
  (hv:vc=true:=by first|rfl|(simp only[go_sem,Nat.reduceLeDiff];done)|(simp only[go_sem,Nat.reduceLeDiff];rfl)|(simp;done)|(simp[oneD]<;>omega)|(simp_all;done)|(simp_all[oneD]<;>omega)) (hlim:st'.nx<=lim:=by first|exact za4 _|exact lb rfl|(dsimp only;omega)|(simp<;>omega)):WRun P tab true lim ops l st acc Q:=
 WRun.EN k (h x1 x2 x3 x4).eq (.inl rfl) hv hlim hQ
end
section
variable {P : Program} {tab : Nat -> TI} {lim n : Nat}
theorem WRun.nd{own dr:Bool}{ops:Array Oper}{st:St}{acc:List FP}{Q:St->Prop}(hQ:Q st)(hs:zl5 ops (fun i=>(acc[i]?).getD zl7)=true:=by exact zh6 (by kernel_rfl)):WRun P tab own lim ops [] st acc (fun st' fps=>(dr=true->zl5 ops (fun i=>(fps[i]?).getD zl7)=true)/\Q st'):=.nil ⟨fun _=>hs,hQ⟩
theorem WRun.cl{ops:Array Oper}{o:Oper}{l:List Oper}{st:St}{acc:List FP}{Q:St->List FP->Prop}{c:Call}{f:Operand}{K:FuncId}{caps ds args:List D}{r:D}
  (hK:zbi P K args r) (hQ:WRun P tab true lim ops l (st.app o.dst {d:=r,vc:=true}) (acc++[fpOf o (st.fs lim) {d:=r,vc:=true}]) Q)
  (ho:o.op=.call c:=by exact rfl) (hc:c.callee=.value f:=by exact rfl) (hg:o.guard=none:=by exact rfl) (hf:opd true (getR st.vars) f=(.fn (.func K) caps,true):=by exact rfl) (hds:opds true (getR st.vars) c.args.toList=(ds,true):=by exact rfl) (hl:zei (getL st.heap) (ds++caps)=(args,true):=by exact rfl):WRun P tab true lim ops (o::l) st acc Q:=
 .call ho hc hg hf hds hl hK hQ
theorem Ok.cd{c x y st b}{Q:Exit->St->Prop}(h1:b=true->Ok P lim n x st Q)(h2:b=false->Ok P lim n y st Q)(hk:zd0 c=true:=by exact rfl)(hc:ev (getR st.vars) c=.bool b:=by exact rfl):Ok P lim n (.cond c x y) st Q:=
 .cond hk hc h1 h2
theorem WRun.nn{own:Bool}{ops:Array Oper}{st:St}{acc:List FP}{Q:St->Prop}(hQ:Q st):WRun P tab own lim ops [] st acc (fun st' fps=>(false=true->zl5 ops (fun i=>(fps[i]?).getD zl7)=true)/\Q st'):=.nil ⟨nofun,hQ⟩
theorem Ok.rr{st:St}{Q:Exit->St->Prop}(h:Q .ret st:=by exact⟨.inr rfl,rsi⟩):Ok P lim n .ret st Q:=.ret h
theorem Wk.iz{s:Nat}{l:List D}{c:Nat}(hc:c<8:=by decide):Wk (.imm s l c) (.imm s l 4):=Wk.imm4 _ _ hc
end
theorem wfn{n:Nat}(h:Tm.wf (.int .i64 (n:Int))):(n:Int)<=9223372036854775807:=by
 simp only[wf,IntKind.max,IntKind.signed,IntKind.bits] at h
 simp at h;omega
theorem wfm{α:Type}{f:α->D}{l:List α}{s c:Nat}(h:Tm.wf (.imm s (l.map f) c)):(l.length:Int)<=9223372036854775807:=by
 simp only[wf,wfL,IntKind.max,IntKind.min,IntKind.signed,IntKind.bits,List.length_map] at h
 first|exact h.2|exact h.1|(simp at h;omega)
theorem Goes.mq{X Y:Prop}{lim n0:Nat}{st s:St}(x:X)(y:Y)(V H:List Nat)(ps:List (Nat×Nat))(h1:X->(⟨mvV (mvF ps) (zf5 V st.vars),mvH (mvF ps) (zf5 H st.heap),s.nx⟩:St)=s:=by intro x;first|rfl|simp only[go_sem,Nat.reduceBEq,Nat.reduceAdd,x]<;>rfl)
  (h4:Y->mvOk ps n0 s.nx (idsV (zf5 V st.vars)++idsH (zf5 H st.heap))=true:=by intro y;first|rfl|simp only[idsV,idsH,zf5,getL,D.ids,Blk.ids,natbeq,Nat.reduceBEq,cond_true,cond_false,zag,zas,zb2,y]<;>rfl)
  (h2:n0<=s.nx:=by exact lb rfl) (h3:s.nx<=lim:=by exact lb rfl):Goes lim n0 st s:=.mv V H ps (h1 x) h2 h3 (h4 y)
theorem Goes.w0{lim n0:Nat}{st s:St}(t id z:Nat){s0 k:Nat}(h:Goes lim n0 ⟨put st.vars t (.ref id z 0 0 (some uC)),st.heap,st.nx⟩ s)(hd:getR st.vars t=.imm s0 [] k:=by exact rfl)(hk:k%8<=1:=by decide):Goes lim n0 st s:=.wk t _ _ hd (.own0 id z s0 k hk) h
theorem Goes.n0{lim n0:Nat}{st s:St}(z:Nat)(e:TypeId)(h:Goes lim n0 ⟨st.vars,put st.heap st.nx (.arr e z true []),st.nx+1⟩ s)(hn:st.nx<lim:=by exact lb rfl):Goes lim n0 st s:=.new0 z e hn h
end Go.Tm
namespace Go.Tm
structure PlN {α:Type} (f g:α->D):Prop where
 un:∀x,unf (f x)=g x
 ids:∀x,(f x).ids=[]
 lo:∀x,okM low3 (f x)=true
 nw:∀x,okM new1 (f x)=true
section
variable {α : Type} {f g : α -> D} (hf : PlN f g)
include hf
theorem PlN.unfL(l:List α):Tm.unfL (l.map f)=l.map g:=by
 induction l with
 |nil=>rfl
 |cons x l ih=>simp only[zai,Tm.unfL,hf.un,ih]
theorem PlN.idsL(l:List α):D.idsL (l.map f)=[]:=by
 induction l with
 |nil=>rfl
 |cons x l ih=>simp only[zai,D.idsL,hf.ids,ih,zas]
theorem PlN.okLo(l:List α):Tm.okML low3 (l.map f)=true:=by
 induction l with
 |nil=>rfl
 |cons x l ih=>simp only[zai,Tm.okML,hf.lo,ih,Bool.and_self]
theorem PlN.okNw(l:List α):Tm.okML new1 (l.map f)=true:=by
 induction l with
 |nil=>rfl
 |cons x l ih=>simp only[zai,Tm.okML,hf.nw,ih,Bool.and_self]
theorem zxc{hp:Nat->Option Blk}{id s e n:Nat}{oc:Option Nat}{l:List α}(h:hp id=some (.arr e s true (l.map f)))(hn:n=l.length):lend hp (.ref id s 0 n oc)=(.imm s (l.map g) 4,true):=by
 subst hn
 have ht:(l.map f).take l.length=l.map f:=List.take_of_length_le (by simp)
 simp only[lend,h,List.drop_zero,ht,hf.unfL,hf.okLo,hf.idsL,List.length_map,Nat.zero_add,Nat.beq_refl,List.isEmpty_nil,Bool.and_true,Bool.true_and,zaa,true_and]
 exact zap (za4 _)
theorem ya3n(e s:Nat)(l:List α):newB (some (.arr e s true (l.map f)))=true:=by simp only[newB,hf.okNw,Bool.and_self]
end
theorem zjy{α:Type}{f g:α->D}(m:Nat)(h:∀x,mkM m (g x)=f x)(l:List α):mkML m (l.map g)=l.map f:=by
 induction l with
 |nil=>rfl
 |cons x l ih=>simp only[zai,mkML,h,ih]
theorem zro{α:Type}(f:α->D)(l:List α)(i:Nat)(x:α):setN (l.map f) i (f x)=(l.set i x).map f:=by
 unfold setN
 exact List.map_set.symm
end Go.Tm
namespace Go.Tm
theorem zqf(k:IntKind):Pl0 (D.int k):=⟨zdz k,fun _ _=>rfl⟩
theorem ya7b(d:D):mkZ 1 d=mkM 1 d:=rfl
theorem ya5q(l:List D):mkZL 1 l=mkML 1 l:=rfl
theorem ya7d(k:IntKind)(l:List Int):mkML 1 (l.map (D.int k))=l.map (D.int k):=zjy 1 (fun _=>rfl) l
theorem ya7c(l:List (List UInt8)):mkML 1 (l.map D.str)=l.map D.str:=zjy 1 (fun _=>rfl) l
theorem ya5r(l:List Bool):mkML 1 (l.map D.bool)=l.map D.bool:=zjy 1 (fun _=>rfl) l
theorem Goes.refl{lim n0:Nat}{st:St}:Goes lim n0 st st:=fun _ _ F _ _ g _ hF hR=>⟨F,g,hF,hR⟩
end Go.Tm
namespace Go.Tm
def zv8(l:List Int):List UInt8:=l.map fun n=>UInt8.ofNat n.toNat
def zkm(l:List UInt8):List Int:=l.map fun b=>(b.toNat:Int)
theorem ya21(l:List Int):zmu (l.map (D.int .u8))=some (zv8 l):=by
 induction l with
 |nil=>rfl
 |cons x l ih=>simp only[zai,zmu,ih,zv8]
theorem ya9y(l:List UInt8):l.map ub=(zkm l).map (D.int .u8):=by
 simp only[zkm,List.map_map];rfl
end Go.Tm
namespace Go.Tm
theorem ya7z{C:Cx}:∀{l l':List D} (b o:Nat),(∀C vs,reps C l vs->reps C l' vs)->(∀C vs,reps C l vs->reps C l' vs)->cels C l b o->cels C l' b o:=by
 intro l l' b o h _ hc
 -- cells as values
 have key:∀(l:List D) (o:Nat),cels C l b o->∃vs,reps C l vs/\vs.length=l.length/\∀j v,vs[j]?=some v->C.w.cell? ⟨b,o+j,none⟩=some v:=by
  intro l
  induction l with
  |nil=>intro o _;exact⟨[],by simp only[reps],rfl,by simp⟩
  |cons d l ih=>
   intro o hc
   simp only[cels] at hc
   obtain⟨⟨v,h1,h2⟩,h3⟩:=hc
   obtain⟨vs,g1,g2,g3⟩:=ih (o+1) h3
   refine⟨v::vs,by simp only[reps];exact⟨v,vs,rfl,h1,g1⟩,by simp[g2],?_⟩
   intro j x hx
   cases j with
   |zero=>simp at hx;subst hx;simpa using h2
   |succ j=>simp at hx;have:=g3 j x hx;rwa [show o+(j+1)=o+1+j by omega]
 have back:∀(l:List D) (o:Nat) (vs:List Value),reps C l vs->(∀j v,vs[j]?=some v->C.w.cell? ⟨b,o+j,none⟩=some v)->cels C l b o:=by
  intro l
  induction l with
  |nil=>intro o vs _ _;simp only[cels]
  |cons d l ih=>
   intro o vs hr hv
   simp only[reps] at hr
   obtain⟨v,vs',rfl,h1,h2⟩:=hr
   simp only[cels]
   refine⟨⟨v,h1,by simpa using hv 0 v rfl⟩,ih (o+1) vs' h2 fun j x hx=>?_⟩
   have:=hv (j+1) x (by simpa using hx)
   rwa [show o+1+j=o+(j+1) by omega]
 obtain⟨vs,g1,_,g3⟩:=key l o hc
 exact back l' o vs (h C vs g1) g3
theorem Wk.iptr{m:Nat}{l l':List D}(h:WkL l l')(hl:l≠[]:=by exact List.cons_ne_nil _ _):Wk (.iptr m l) (.iptr m l'):=by
 intro C v hv
 simp only[rep] at hv ⊢
 obtain⟨a0,rfl,hs,hfl,hr⟩:=hv
 refine⟨a0,rfl,hs,hfl,?_⟩
 rcases hr with hr|hr
 exact absurd hr hl
 right
 intro Z hZ
 obtain⟨g1,g2,g3,g4⟩:=hr Z hZ
 exact⟨g1,g2,g3,ya7z _ _ h h g4⟩
end Go.Tm
namespace Go.Tm
def WkGs:List D->List D->Prop
 |[],[]=>True
 |d::l,d'::l'=>WkG d d'/\WkGs l l'
 | _,_=>False
theorem WkG.refl(d:D):WkG d d:=fun _ _ _ _ _ _ _ h=>h
theorem WkGs.cons{d d':D}{l l':List D}(h:WkG d d')(hl:WkGs l l'):WkGs (d::l) (d'::l'):=⟨h,hl⟩
theorem WkGs.keep{d:D}{l l':List D}(hl:WkGs l l'):WkGs (d::l) (d::l'):=⟨.refl d,hl⟩
theorem WkGs.refl:∀l:List D,WkGs l l
 |[]=>trivial
 |d::l=>⟨.refl d,WkGs.refl l⟩
theorem WkGs.reps{fr:Nat}{w:World}{g:Gh}{hp:Nat->Option Blk}{nu:Nat->Bool}(hM:Mem fr w g hp nu):∀{l l':List D},WkGs l l'->∀vs,Tm.reps (cx w g hp) l vs->Tm.reps (cx w g hp) l' vs
 |[],[],_,vs,h=>h
 |d::l,d'::l',hw,vs,h=>by
  simp only[Tm.reps] at h ⊢
  obtain⟨v,vs',e,h1,h2⟩:=h
  exact⟨v,vs',e,hw.1 fr w g hp nu hM v h1,WkGs.reps hM hw.2 vs' h2⟩
 |[],_::_,hw,_,_=>hw.elim
 | _::_,[],hw,_,_=>hw.elim
theorem Goes.boxs{lim n0:Nat}{st s:St}(id:Nat)(cells cells':List D)(hd:getL st.heap id=some (.box cells))(hw:WkGs cells cells')(h:Goes lim n0 ⟨st.vars,put st.heap id (.box cells'),st.nx⟩ s):Goes lim n0 st s:=by
 intro E n F a w g hE hF hR
 obtain⟨h1,h2,h3⟩:=hF
 have hid:F.hp id=some (.box cells):=by rw[h2];exact hd
 have hp:∀i,getL (put st.heap id (.box cells')) i=if id=i then some (.box cells') else F.hp i:=by
  intro i;rw[zk2,h2]
 have hne:∀i,getL (put st.heap id (.box cells')) i≠none↔F.hp i≠none:=by
  intro i
  rw[hp]
  by_cases e:id=i
  subst e;simp[hid]
  rw[if_neg e]
 have hown:ownB g (getL (put st.heap id (.box cells')))=ownB g F.hp:=by
  funext b
  apply propext
  constructor
  rintro⟨i,o,k1,k2⟩;exact⟨i,o,(hne i).1 k1,k2⟩
  rintro⟨i,o,k1,k2⟩;exact⟨i,o,(hne i).2 k1,k2⟩
 have hcx:cx w g (getL (put st.heap id (.box cells')))=cx w g F.hp:=by simp only[cx,hown]
 refine h E n ⟨F.rd,getL (put st.heap id (.box cells')),F.nu⟩ a w g hE ⟨h1,rfl,h3⟩ ⟨hR.sz,hR.df,fun t=>by rw[hcx];exact hR.rd t,⟨fun i blk hb=>?_,fun i i' b o o' k1 k2=>hR.mem.inj i i' b o o' ((hne i).1 k1) ((hne i').1 k2),fun i hi=>?_,?_,hR.mem.fl⟩,fun i b o k1=>hR.base i b o ((hne i).1 k1),hR.keep,hR.gz,hR.gs,hR.nu⟩
 have hb:getL (put st.heap id (.box cells')) i=some blk:=hb
 rw[hcx]
 rw[hp] at hb
 by_cases e:id=i
 subst e
 rw[if_pos rfl] at hb
 cases hb
 obtain⟨b,cs,T,e1,e2,e3,e4⟩:=hR.mem.hd id _ hid
 exact⟨b,cs,T,e1,e2,hw.reps hR.mem _ e3,e4⟩
 rw[if_neg e] at hb
 exact hR.mem.hd i blk hb
 obtain⟨k1,k2⟩:=hR.mem.nw i hi
 refine⟨k1,?_⟩
 rcases Classical.em (getL (put st.heap id (.box cells')) i=none) with e|e
 exact e
 exact absurd k2 ((hne i).1 e)
 rw[hown];exact hR.mem.zs
end Go.Tm
namespace Go.Tm
end Go.Tm
namespace Go.Tm
theorem zhc{P:Program}{K:FuncId}{args args':List D}{H:List (Nat×Blk)}{r:D}{eff:List (Nat×Option Blk)}{nw:Nat×Nat}(h:WkGs args args')(hK:zbv P K args' H r eff nw):zbv P K args H r eff nw:=
 ⟨hK.1,fun fr w g hp nu vs hM hH hn hvs=>hK.2 fr w g hp nu vs hM hH hn (h.reps hM vs hvs)⟩
theorem za6{P:Program}{K:FuncId}{args:List D}{H:List (Nat×Blk)}{r:D}{eff:List (Nat×Option Blk)}{nw:Nat×Nat}(a b:Nat)(h:zbv P K args H r eff nw)(ha:Nat.blt a nw.1=true:=by rfl)(hb:Nat.blt b nw.1=true:=by rfl):
  zbv P K (D.renL (sw a b) args) (mvH (sw a b) H) (r.ren (sw a b)) (renE (sw a b) eff) nw:=by
 refine zq0 (π:=sw a b) (yaal a b) nw (fun id h1 h2=>?_) h
 have ha:=lb ha
 have hb:=lb hb
 have e:sw a b id=id:=by
  unfold sw
  rw[zbq (by omega),zbq (by omega)];rfl
 rw[e];exact⟨h1,h2⟩
theorem zcg{P:Program}{K:FuncId}{args:List D}{H:List (Nat×Blk)}{r:D}{eff:List (Nat×Option Blk)}{a b:Nat}(n:Nat)(h:zbv P K args H r eff (a,b))(hn:Nat.ble (n+(b-a)) a=true:=by rfl):
  zbv P K (D.renL (bsw n a (b-a)) args) (mvH (bsw n a (b-a)) H) (r.ren (bsw n a (b-a))) (renE (bsw n a (b-a)) eff) (n,n+(b-a)):=by
 have hn:=lb hn
 refine zq0 (π:=bsw n a (b-a)) (zzi hn) _ (fun id h1 h2=>?_) h
 have h1:a<=id:=h1
 have h2:id<b:=h2
 have e1:(Nat.ble n id&&Nat.blt id (n+(b-a)))=false:=by
  rw[<-Bool.not_eq_true];simp only[za0]
  rintro⟨_,k⟩
  have:=lb k
  omega
 have e2:(Nat.ble a id&&Nat.blt id (a+(b-a)))=true:=by
  simp only[za0]
  exact⟨zap h1,zap (by omega)⟩
 simp only[bsw,e1,e2,cond_false,cond_true]
 omega
end Go.Tm
namespace Go.Tm
theorem natbeq(a b:Nat):Nat.beq a b=(a==b):=by
 by_cases h:a=b
 subst h;simp
 rw[zbq h];exact(beq_eq_false_iff_ne.2 h).symm
end Go.Tm
namespace Go.Tm
end Go.Tm
namespace Go.Tm
def mget{α β:Type}[DecidableEq α](k:α):List (α×β)->Option β
 |[]=>none
 |x::l=>if k=x.1 then some x.2 else mget k l
def mput{α β:Type}[DecidableEq α](k:α)(v:β):List (α×β)->List (α×β)
 |[]=>[(k,v)]
 |x::l=>if k=x.1 then(k,v)::l else x::mput k v l
def mapD{α β:Type}(f:α->D)(g:β->D)(l:List (α×β)):List (D×D):=l.map fun x=>(f x.1,g x.2)
theorem ya4e{β:Type}(q:IntKind)(g:β->D)(k:Int)(l:List (Int×β)):ztb (.int q k) (mapD (D.int q) g l)=some ((mget k l).map g):=by
 induction l with
 |nil=>rfl
 |cons x l ih=>
  simp only[mapD,zai,ztb,zos,decide_true,cond_true,mget] at ih ⊢
  by_cases h:k=x.1
  simp[h]
  have:(k==x.1)=false:=beq_eq_false_iff_ne.2 h
  simp only[this,h,if_false]
  exact ih
theorem ya4d{β:Type}(g:β->D)(k:List UInt8)(l:List (List UInt8×β)):ztb (.str k) (mapD D.str g l)=some ((mget k l).map g):=by
 induction l with
 |nil=>rfl
 |cons x l ih=>
  simp only[mapD,zai,ztb,zos,mget] at ih ⊢
  by_cases h:k=x.1
  simp[h]
  have:(k==x.1)=false:=beq_eq_false_iff_ne.2 h
  simp only[this,h,if_false]
  exact ih
theorem zzr{β:Type}(g:β->D)(k:List UInt8)(v:β)(d:D)(hd:d=g v)(l:List (List UInt8×β)):updD (.str k) d (mapD D.str g l)=some (mapD D.str g (mput k v l)):=by
 subst hd
 induction l with
 |nil=>rfl
 |cons x l ih=>
  simp only[mapD,zai,updD,zos,mput] at ih ⊢
  by_cases h:k=x.1
  simp[h]
  have:(k==x.1)=false:=beq_eq_false_iff_ne.2 h
  simp only[this,h,if_false,ih,zai]
theorem zw6{α:Type}(f:α->D)(z:α)(o:Option α):(o.map f).getD (f z)=f (o.getD z):=by cases o<;>rfl
theorem ya5y(q:IntKind)(z:Int)(o:Option Int):(o.map (D.int q)).getD (.int q z)=.int q (o.getD z):=zw6 _ z o
theorem ya5x(z:List UInt8)(o:Option (List UInt8)):(o.map D.str).getD (.str z)=.str (o.getD z):=zw6 _ z o
theorem ya48(z:Bool)(o:Option Bool):(o.map D.bool).getD (.bool z)=.bool (o.getD z):=zw6 _ z o
end Go.Tm
namespace Go.Tm
end Go.Tm
