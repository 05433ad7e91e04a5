/- Texts of the proof. -/
import Derived.Test.YtbedjbhndfbpcaaGreatSeatOnePu
set_option linter.unusedVariables false
set_option linter.unusedSimpArgs false
namespace Go.Tm
open Go.RowKit Go.WideShapes
def kept(K:List Nat)(a a':Act):Prop:=∀t∈K,a'.tmps[t]?=a.tmps[t]?
theorem zk1{K:List Nat}{a0 a:Act}{dst:Option Nat}{v:Value}(h:kept K a0 a)(hd:∀t∈K,dst≠some t):kept K a0 (a.put dst v):=by
 intro t ht
 rw[<-h t ht]
 cases dst with
 |none=>rfl
 |some d=>
  have hne:d≠t:=fun e=>hd t ht (by rw[e])
  simp[Act.put,Array.getElem?_setIfInBounds_ne hne]
section
variable {P : Program} {ops : Array Oper} {R : Act -> World -> Prop} {K : List Nat}
theorem ya2i{o:Oper}{a0 a:Act}{next next':Act->World->Prop}(hk:kept K a0 a)(hd:∀t∈K,o.dst≠some t)(hn:∀a w,kept K a0 a->next a w->next' a w){res:Result Next}
  (h:o.upon P a next (fun e a w=>e=.normal/\R a w) res):o.upon P a next' (fun e a w=>e=.normal/\R a w/\kept K a0 a) res:=by
 cases res with
 |ok n w'=>
  cases n with
  |value v=>exact hn _ _ (zk1 hk hd) h
  |skip=>exact hn _ _ (zk1 hk hd) h
  |defer d=>exact hn _ _ (zk1 (a:={a with defers:=d::a.defers}) hk hd) h
  |enter f args=>
   refine Calls.mono (show Calls P f args w' _ from h) fun e w'' hq=>?_
   cases e with
   |returned v=>exact hn _ _ (zk1 hk hd) hq
   |panicked ch=>cases hq.1
   |outgrown=>obtain⟨_,_,h1,_⟩:=hq;cases h1
  |row row args=>exact Go.Rows.mono (show Go.Rows P row args w' _ from h) fun v w'' hq=>hn _ _ (zk1 hk hd) hq
  | _=>exact h.elim
 |halt x w'=>
  cases x with
  |panic v=>cases (show Exit.panic _=Exit.normal/\_ from h).1
  | _=>exact h.elim
theorem zll{a0:Act}:∀(l:List Nat) (a:Act) (w:World),(∀i∈l,∀o,ops[i]?=some o->∀t∈K,o.dst≠some t)->kept K a0 a->wpOps P ops (fun e a w=>e=.normal/\R a w) l a w->
  wpOps P ops (fun e a' w'=>e=.normal/\R a' w'/\kept K a0 a') l a w
 |[],a,w,_,hk,h=>⟨rfl,h.2,hk⟩
 |i::l,a,w,hl,hk,h=>by
  simp only[wpOps] at h ⊢
  cases ho:ops[i]? with
  |none=>
   simp only[ho] at h ⊢
   exact zll l a w (fun j hj=>hl j (by simp[hj])) hk h
  |some o=>
   simp only[ho] at h ⊢
   have hd:=hl i (by simp) o ho
   have hn:∀a w,kept K a0 a->wpOps P ops (fun e a w=>e=.normal/\R a w) l a w->wpOps P ops (fun e a' w'=>e=.normal/\R a' w'/\kept K a0 a') l a w:=fun a w hk h=>zll l a w (fun j hj=>hl j (by simp[hj])) hk h
   split at h
   rename_i hw
   rw[if_pos hw]
   rcases h with h|⟨_,_,_,h,_⟩
   exact .inl (ya2i hk hd hn h)
   cases h
   rename_i hw
   rw[if_neg hw]
   exact hn _ _ (zk1 hk hd) h
end
theorem zya{F:Fence}{n:Nat}{P:Program}{o:Oper}{a:Act}{X:Act->World->Prop}{next':Act->World->Prop}{Q:Exit->Act->World->Prop}(hn:∀a w,X a w->next' a w){next:Act->World->Prop}(hx:∀a w,next a w->X a w){res:Result Next}
  (h:o.uponIn F n P a next (fun e a w=>e=.normal/\X a w) res):o.uponIn F n P a next' Q res:=by
 have hn:∀a w,next a w->next' a w:=fun a w h=>hn a w (hx a w h)
 cases res with
 |ok x w'=>
  cases x with
  |value v=>exact hn _ _ h
  |skip=>exact hn _ _ h
  |defer d=>exact hn _ _ h
  |enter f args=>
   rw[Oper.uponIn_enter] at h ⊢
   refine⟨h.1,h.2.1,fun cs hr=>?_⟩
   obtain⟨e,w2,fr,hq,hrest⟩:=h.2.2 cs hr
   refine⟨e,w2,fr,?_,hrest⟩
   cases e with
   |returned v=>exact hn _ _ hq
   |panicked ch=>cases hq.1
   |outgrown=>obtain⟨_,_,h1,_⟩:=hq;cases h1
  |row row args=>
   rw[Oper.uponIn_row] at h ⊢
   exact⟨h.1,h.2.mono fun v w'' hq=>hn _ _ hq⟩
  |round l f tmps assign body=>
   rw[Oper.uponIn_round] at h ⊢
   refine⟨h.1,h.2.mono fun e w'' hq=>?_⟩
   cases e with
   |returned v=>exact hn _ _ hq
   |panicked ch=>cases hq.1
   |outgrown=>obtain⟨_,_,h1,_⟩:=hq;cases h1
  | _=>exact h.elim
 |halt x w'=>
  cases x with
  |panic v=>cases (show Exit.panic _=Exit.normal/\_ from h).1
  | _=>exact h.elim
theorem zu5{F:Fence}{n:Nat}{P:Program}{ops:Array Oper}{X:Act->World->Prop}{Q:Exit->Act->World->Prop}{i:Nat}{rest:List Nat}{a:Act}{w:World}
  (h:wpOpsIn F n P ops (fun e a w=>e=.normal/\X a w) [i] a w) (hn:∀a w,X a w->wpOpsIn F n P ops Q rest a w):wpOpsIn F n P ops Q (i::rest) a w:=by
 simp only[wpOpsIn] at h ⊢
 cases ho:ops[i]? with
 |none=>simp only[ho] at h ⊢;exact hn _ _ h.2
 |some o=>
  simp only[ho] at h ⊢
  split at h
  rename_i hw
  rw[if_pos hw]
  exact⟨h.1,zya hn (fun _ _ h=>h.2) h.2⟩
  rename_i hw
  rw[if_neg hw]
  exact⟨h.1,hn _ _ h.2.2⟩
def zv6(F:Fence)(n:Nat)(P:Program)(c:Code)(Q:Exit->Act->World->Prop)(a:Act)(w:World):Prop:=
 ∀(b:Frame) (k:List Item) (cs:List Frame),b.roundOf=F.round->F.fn b.fn->F.room (cs.length+1+n)->
  ∃e a' w',Q e a' w'/\ArrivesIn (Machine.fenced P F) P (lone (b.atR a (.code c::.inLoop c::k)) cs w) b k cs e a' w'
section
variable {F : Fence} {n : Nat} {P : Program} {c : Code} {Q : Exit -> Act -> World -> Prop} {a : Act} {w : World}
theorem zv6.to(h:zv6 F n P c Q a w):(Code.loop c).wpIn F n P Q a w:=by
 intro b k cs hro hb hr
 obtain⟨e,a',w',hq,harr⟩:=h b k cs hro hb hr
 exact⟨e,a',w',hq,.of_steps (.one (fenced_calm hb hr rfl) stepR_loop) harr⟩
theorem zv6.round(h:c.wpIn F n P (Exit.then (zv6 F n P c Q) Q) a w):zv6 F n P c Q a w:=by
 intro b k cs hro hb hr
 obtain⟨e,a₁,w₁,hq,harr⟩:=h b (.inLoop c::k) cs hro hb hr
 cases e with
 |normal=>
  obtain⟨e₂,a₂,w₂,hq₂,harr₂⟩:=hq b k cs hro hb hr
  exact⟨e₂,a₂,w₂,hq₂,.of_steps (StepsIn.trans harr (.one (fenced_calm hb hr rfl) stepR_inLoop)) harr₂⟩
 |exit id=>exact⟨_,a₁,w₁,hq,.pass (x:=.inLoop c) rfl (fun _ _=>.inl (by simp)) harr⟩
 |goto l=>exact⟨_,a₁,w₁,hq,.pass (x:=.inLoop c) rfl (fun _ _=>.inl (by simp)) harr⟩
 |ret=>exact⟨_,a₁,w₁,hq,.pass (x:=.inLoop c) rfl (fun _ _=>.inl (by simp)) harr⟩
 |panic ch=>exact⟨_,a₁,w₁,hq,.pass (x:=.inLoop c) rfl (fun _ _=>.inl (by simp)) harr⟩
 |outgrown=>exact⟨_,a₁,w₁,hq,.pass (x:=.inLoop c) rfl (fun _ _=>.inl (by simp)) harr⟩
end
def En.forkX(E:En)(w:World)(g:Gh)(F:FrS)(X:Nat->Prop):En:=⟨w,E.fr,fun b=>ownB g F.hp b\/X b,g,F.nu⟩
section
variable {E : En} {n m : Nat} {F F2 : FrS} {a a2 : Act} {w w2 : World} {g g2 : Gh} {X : Nat -> Prop}
theorem zw7(hR:Rel E n F a w g)(k:Rel (E.forkX w g F X) m F2 a2 w2 g2)(hX:∀b,X b->∃o,w.heap[b]?=some o/\∀cs T f,o≠.cells cs T f)(hX2:∀b,X b->¬ownB g2 F2.hp b):
  Cx.Le (cx w g F.hp) (cx w2 g2 F2.hp):=by
 refine⟨fun mk _ Z' hZ'=>⟨Z',?_,fun b hM hZ hb=>⟨?_,hZ,?_⟩⟩,fun b hb=>k.keep.shp b hb,id,id,fun _ id hid=>?_⟩
 have h1:=k.gz.1
 have h2:=k.gz.2
 simp only[En.forkX] at h1 h2
 simp only[Cx.zone,cx,h1,h2] at hZ' ⊢
 exact hZ'
 rintro⟨id,o,h1,h2⟩
 rcases k.base id b o h1 h2 with h|h|h
 have hb:b<w.heap.size:=hb
 have h:w.heap.size<=b:=h
 omega
 exact hM h
 exact hX2 b h ⟨id,o,h1,h2⟩
 by_cases hx:X b
 obtain⟨o,ho,hc⟩:=hX b hx
 refine⟨Nat.lt_of_lt_of_le hb k.keep.size,fun cs T r hcs=>?_⟩
 have hcs:w.heap[b]?=some (.cells cs T r):=hcs
 rw[ho] at hcs
 cases hcs
 exact absurd rfl (hc _ _ _)
 exact .of_eq (k.keep.block b hb fun h=>h.elim hM hx) hb
 refine k.gs id ?_
 cases hb:F.nu id
 exact hb
 exact absurd (hR.mem.nw id hb).1 hid
theorem Rel.swap(hR:Rel E n F a w g)(k:Rel (E.forkX w g F X) m F2 a2 w2 g2)(hX:∀b,X b->∃o,w.heap[b]?=some o/\∀cs T f,o≠.cells cs T f)(hX2:∀b,X b->¬ownB g2 F2.hp b)(hnew:∀b,X b->E.w0.heap.size<=b\/E.X b):
  Rel E n ⟨F.rd,F2.hp,F2.nu⟩ a w2 g2:=by
 have hle:=zw7 hR k hX hX2
 refine⟨hR.sz,hR.df,fun t=>zfv hle _ _ (hR.rd t),k.mem,fun id b o h1 h2=>?_,?_,⟨k.gz.1.trans hR.gz.1,k.gz.2.trans hR.gz.2⟩,fun id hid=>?_,fun id hid=>hR.nu id (k.nu id hid)⟩
 rcases k.base id b o h1 h2 with hb|⟨id',o',h3,h4⟩|hx
 exact .inl (zao hR.keep.size hb)
 exact hR.base id' b o' h3 h4
 exact hnew b hx
 refine hR.keep.trans (k.keep.mono ?_)
 rintro b _ (⟨id,o,h1,h2⟩|hx)
 rcases hR.base id b o h1 h2 with hb|hb
 exact .inr hb
 exact .inl hb
 rcases hnew b hx with hb|hb
 exact .inr hb
 exact .inl hb
 have hf:F.nu id=false:=by
  cases hb:F.nu id
  rfl
  rw[hR.nu id hb] at hid;cases hid
 exact(k.gs id hf).trans (hR.gs id hid)
theorem Rel.setObjX(h:Rel E n F a w g){l:Nat}{o o':Obj}(hl:w.heap[l]?=some o)(hlt:E.w0.heap.size<=l\/E.X l)(ho:∀cs T f,o≠.cells cs T f)(hm:∀es c,o≠.map es c)(ho':∀cs T f,o'≠.cells cs T f):Rel E n F a (w.putObj l o') g:=by
 have hno:=znd h.mem hl ho hm
 have hsh:=zr7 hl ho ho'
 have hle:Cx.Le (cx w g F.hp) (cx (w.putObj l o') g F.hp):=by
  refine⟨fun m _ Z' hZ'=>⟨Z',hZ',fun b k1 k2 k3=>⟨k1,k2,?_⟩⟩,fun b _=>hsh b,id,id,fun _ _ _=>rfl⟩
  refine⟨by show b<(w.putObj l o').heap.size;rw[World.putObj_size];exact k3,fun cs T r hc=>?_⟩
  have hne:b≠l:=by
   rintro rfl
   have hc:w.heap[b]?=some (.cells cs T r):=hc
   rw[hl] at hc
   cases hc
   exact ho _ _ _ rfl
  exact(World.putObj_heap_other hne).trans hc
 refine⟨h.sz,h.df,fun t=>zfv hle _ _ (h.rd t),⟨fun id blk hb=>?_,h.mem.inj,h.mem.nw,?_,h.mem.fl.obj hl ho⟩,h.base,?_,h.gz,h.gs,h.nu⟩
 refine zmi (C:=cx w g F.hp) hle rfl rfl (fun b o hσ=>World.putObj_heap_other ?_) (h.mem.hd id blk hb)
 rintro rfl
 exact hno ⟨id,o,by rw[hb];simp,hσ⟩
 rw[World.putObj_size];exact h.mem.zs
 refine h.keep.trans ⟨rfl,rfl,rfl,by rw[World.putObj_size];exact za4 _,fun k hk hx=>World.putObj_heap_other ?_,fun k _=>hsh k⟩
 rintro rfl
 exact hx (hlt.elim .inr .inl)
end
section
variable {S : Type}
def Stab(K:List Nat)(J:En->S->FrS->Act->World->Gh->Prop):Prop:=
 ∀(E:En) (n:Nat) (F F':FrS) (a a':Act) (w w':World) (g g':Gh) (s:S),J E s F a w g->Rel E n F (zh4 a) w g->Rel (E.fork w g F) n F' (zh4 a') w' g'->a'.defers=a.defers->kept K a a'->J E s F' a' w' g'
def OkG(P:Program)(lim n:Nat)(r:Option Nat)(J:En->S->FrS->Act->World->Gh->Prop)(c:Code)(st:St)(s:S)(Q:Exit->St->S->Prop):Prop:=
 ∀(E:En) (F:FrS) (a:Act) (w:World) (g:Gh),F.on lim st->Rel E n F (zh4 a) w g->J E s F a w g->
  c.wpIn (zlm r) 0 P (fun e a' w'=>∃st' s' F' g',Q e st' s'/\F'.on lim st'/\Rel E n F' (zh4 a') w' g'/\J E s' F' a' w' g') a w
def OkGL(P:Program)(lim n:Nat)(r:Option Nat)(J:En->S->FrS->Act->World->Gh->Prop)(c:Code)(st:St)(s:S)(Q:Exit->St->S->Prop):Prop:=
 ∀(E:En) (F:FrS) (a:Act) (w:World) (g:Gh),F.on lim st->Rel E n F (zh4 a) w g->J E s F a w g->
  zv6 (zlm r) 0 P c (fun e a' w'=>∃st' s' F' g',Q e st' s'/\F'.on lim st'/\Rel E n F' (zh4 a') w' g'/\J E s' F' a' w' g') a w
variable {P : Program} {lim n : Nat} {r : Option Nat} {J : En -> S -> FrS -> Act -> World -> Gh -> Prop} {st : St} {s : S} {Q : Exit -> St -> S -> Prop}
theorem OkG.mono{c:Code}{Q':Exit->St->S->Prop}(h:OkG P lim n r J c st s Q)(hq:∀e t s,Q e t s->Q' e t s):OkG P lim n r J c st s Q':=
 fun E F a w g hF hR hJ=>wpIn_mono (h E F a w g hF hR hJ) fun _ _ _ ⟨st',s',F',g',h1,h2⟩=>⟨st',s',F',g',hq _ _ _ h1,h2⟩
theorem OkG.skip(h:Q .normal st s):OkG P lim n r J .skip st s Q:=fun _ F _ _ g hF hR hJ=>wpIn_skip ⟨st,s,F,g,h,hF,hR,hJ⟩
theorem OkG.exit{id:Nat}(h:Q (.exit id) st s):OkG P lim n r J (.exit id) st s Q:=fun _ F _ _ g hF hR hJ=>wpIn_exit ⟨st,s,F,g,h,hF,hR,hJ⟩
theorem OkG.ret(h:Q .ret st s):OkG P lim n r J .ret st s Q:=fun _ F _ _ g hF hR hJ=>wpIn_ret ⟨st,s,F,g,h,hF,hR,hJ⟩
def seqG(P:Program)(lim n:Nat)(r:Option Nat)(J:En->S->FrS->Act->World->Gh->Prop)(y:Code)(Q:Exit->St->S->Prop):Exit->St->S->Prop:=fun e st' s'=>match e with|.normal=>OkG P lim n r J y st' s' Q|e=>Q e st' s'
theorem OkG.seq{x y:Code}(h:OkG P lim n r J x st s (seqG P lim n r J y Q)):OkG P lim n r J (.seq x y) st s Q:=by
 intro E F a w g hF hR hJ
 refine wpIn_seq (wpIn_mono (h E F a w g hF hR hJ) ?_)
 rintro e a' w' ⟨st',s',F',g',h1,h2,h3,h4⟩
 cases e with
 |normal=>exact h1 E F' a' w' g' h2 h3 h4
 | _=>exact⟨st',s',F',g',h1,h2,h3,h4⟩
theorem OkG.block{id:Nat}{c:Code}(h:OkG P lim n r J c st s fun e st' s'=>match e with|.exit i=>bif Nat.beq i id then Q .normal st' s' else Q (.exit i) st' s'|e=>Q e st' s'):OkG P lim n r J (.block id c) st s Q:=by
 intro E F a w g hF hR hJ
 refine wpIn_block (wpIn_mono (h E F a w g hF hR hJ) ?_)
 rintro e a' w' ⟨st',s',F',g',h1,h2,h3⟩
 cases e with
 |exit i=>
  simp only[Exit.inBlock]
  by_cases hi:i=id
  subst hi;simp only[Nat.beq_refl,cond_true,if_true] at h1 ⊢;exact⟨st',s',F',g',h1,h2,h3⟩
  simp only[zbq hi] at h1
  simp only[hi,if_false,cond_false] at h1 ⊢;exact⟨st',s',F',g',h1,h2,h3⟩
 | _=>exact⟨st',s',F',g',h1,h2,h3⟩
theorem OkG.cond{c:Operand}{x y:Code}{b:Bool}(hk:zd0 c=true)(hc:ev (getR st.vars) c=.bool b)(h1:b=true->OkG P lim n r J x st s Q)(h2:b=false->OkG P lim n r J y st s Q):OkG P lim n r J (.cond c x y) st s Q:=by
 intro E F a w g hF hR hJ
 have:=ya01 hR.rd c hk
 rw[hF.1,hc,zv3] at this
 simp only[rep] at this
 cases b
 exact wpIn_cond_false this (h2 rfl E F a w g hF hR hJ)
 exact wpIn_cond_true this (h1 rfl E F a w g hF hR hJ)
theorem OkGL.to{c:Code}(h:OkGL P lim n r J c st s Q):OkG P lim n r J (.loop c) st s Q:=fun E F a w g hF hR hJ=>(h E F a w g hF hR hJ).to
theorem OkGL.round{c:Code}(h:OkG P lim n r J c st s fun e st' s'=>match e with|.normal=>OkGL P lim n r J c st' s' Q|e=>Q e st' s'):OkGL P lim n r J c st s Q:=by
 intro E F a w g hF hR hJ
 refine .round (wpIn_mono (h E F a w g hF hR hJ) ?_)
 rintro e a' w' ⟨st',s',F',g',h1,h2,h3,h4⟩
 cases e with
 |normal=>exact h1 E F' a' w' g' h2 h3 h4
 | _=>exact⟨st',s',F',g',h1,h2,h3,h4⟩
def zog(K:List Nat)(ops:Array Oper):Bool:=ops.toList.all fun o=>match o.dst with
 |some t=>!hasN K t
 |none=>true
theorem zsy{K:List Nat}{ops:Array Oper}(h:zog K ops=true){i:Nat}{o:Oper}(ho:ops[i]?=some o):∀t∈K,o.dst≠some t:=by
 intro t ht e
 have hm:o∈ops.toList:=List.mem_of_getElem? (i:=i) (by simpa using ho)
 have:=List.all_eq_true.1 h o hm
 rw[e] at this
 simp only[Bool.not_eq_true'] at this
 rw[zru.2 ht] at this
 cases this
theorem OkG.region0{K:List Nat}(hS:Stab K J){tab:Nat->TI}(hT:zhz P tab)(hm:P.follows .mixedOrders=true){own:Bool}{id:Nat}{ops:Array Oper}{draw:Bool}(hok:zjl n ops draw=true)(hKo:zog K ops=true)(h:RegA P tab own lim ops draw st (fun st'=>Q .normal st' s)):OkG P lim n r J (.region id ops draw) st s Q:=by
 simp only[zjl,za0,zau,Bool.not_eq_true'] at hok
 intro E F a w g hF hR hJ
 obtain⟨os,st',hch,hs,hq⟩:=h
 have hRk:=hR.fork
 have ha:zrz (zh4 a) a.defers=a:=rfl
 have fin:∀e a' w',(e=Exit.normal/\a'.defers=a.defers/\(∃F' g',F'.on lim st'/\Rel (E.fork w g F) n F' (zh4 a') w' g')/\kept K (zh4 a) (zh4 a'))->∃st' s' F' g',Q e st' s'/\F'.on lim st'/\Rel E n F' (zh4 a') w' g'/\J E s' F' a' w' g':=by
  rintro e a' w' ⟨rfl,hd,⟨F',g',hF',hR'⟩,hk⟩
  exact⟨st',s,F',g',hq,hF',hR.join hR',hS E n F F' a a' w w' g g' s hJ hR hR' hd hk⟩
 have hdf:∀(a':Act) (w':World),((∃F' g',F'.on lim st'/\Rel (E.fork w g F) n F' a' w' g')/\kept K (zh4 a) a')->a'.defers=[]:=fun a' w' ⟨⟨_,_,_,h⟩,_⟩=>h.df
 have hbk:∀a',kept K (zh4 a) (zh4 a')->kept K (zh4 a) (zh4 a'):=fun _ h=>h
 have hko:∀(l:List Nat),∀i∈l,∀o,ops[i]?=some o->∀t∈K,o.dst≠some t:=fun _ i _ o ho=>zsy hKo ho
 cases draw with
 |false=>
  refine wpIn_mono (wpIn_region ?_) fin
  have:=zow hT hok.1 (Q:=fun e a' w'=>e=.normal/\∃F' g',F'.on lim st'/\Rel (E.fork w g F) n F' a' w' g') ops.toList 0 st st' os F (zh4 a) w g (fun i=>by simp) hch hF hRk (fun F' a' w' g' hf hr=>⟨rfl,F',g',hf,hr⟩)
  have h2:=znu hdf r 0 a.defers _ _ _ (zll (K:=K) (a0:=zh4 a) _ _ _ (hko _) (fun _ _=>rfl) this)
  rw[ha] at h2
  rw[List.range_eq_range']
  simpa using h2
 |true=>
  have hsl:=hok.2.resolve_left (by simp)
  obtain⟨hlen,F',hF',hrun⟩:=zqt ops.toList 0 st st' os F (fun i=>by simp) hch hF
  have hs':=hs rfl
  simp only[zas] at hs'
  refine wpIn_mono (wpIn_region_draw fun t=>?_) fin
  simp only[Region.schedule,hm,Bool.true_or,if_true]
  have hany:=zs7 (Q:=fun e a' w'=>e=.normal/\∃F' g',F'.on lim st'/\Rel (E.fork w g F) n F' a' w' g') hT hok.1 hsl (outs:=fun i=>((os.map (·.1))[i-0]?).getD {d:=.undef,vc:=true}) (fps:=fun i=>((os.map (·.2))[i-0]?).getD zl7) (by simpa using hs') (F':=F')
   (fun a' w' g' h=>⟨rfl,F',g',hF',h⟩) ops.size (Array.replicate ops.size false) (List.range ops.size) F (zh4 a) {w with drawn:=w.drawn+1} g (by simp) List.pairwise_lt_range ?_ (by simp) ?_ (by rw[List.range_eq_range'];exact hrun) (Rel.ext hRk (Keep.refl _ w).drew)
  have h2:=znu hdf r 0 a.defers _ _ _ (zll (K:=K) (a0:=zh4 a) _ _ _ (hko _) (fun _ _=>rfl) (wpAny_sound ops.size t _ _ _ hany))
  rw[ha] at h2
  exact h2
  intro i
  simp only[List.mem_range]
  constructor
  intro h;exact⟨h,by simp[Array.getD,h]⟩
  exact fun h=>h.1
  intro i o hi hl
  exfalso
  have:i<ops.size:=(Array.getElem?_eq_some_iff.1 hi).1
  simp[Array.getD,this] at hl
end
def JM(B:List (Nat×Obj))(E:En)(_:Unit)(_:FrS)(a:Act)(w:World)(_:Gh):Prop:=zzo E a.defers w/\∀x∈B,w.heap[x.1]?=some x.2
def zp2(B:List (Nat×Obj)):Prop:=∀x∈B,(∀cs T f,x.2≠.cells cs T f)/\∀es c,x.2≠.map es c
theorem yaam{B:List (Nat×Obj)}(hB:zp2 B):Stab [] (JM B):=by
 intro E n F F' a a' w w' g g' s hJ hR hR' hd _
 refine⟨by rw[hd];exact hJ.1.keep hR hR'.keep fun _ h=>h,fun x hx=>?_⟩
 have h:=hJ.2 x hx
 rw[hR'.keep.block x.1 (Array.getElem?_eq_some_iff.1 h).1 (znd hR.mem h (hB x hx).1 (hB x hx).2)]
 exact h
structure YC where
 k:Nat
 n:Nat
 vars:List (Nat×D)
 ps:Array Tmp
 assign:Code
 body:Code
structure YRec (Y:YC) (p:Option Code) (F:FrS) (w:World) (g:Gh) (rc:Loop):Prop where
 st:rc.state=match p with|none=>.ready|some _=>.done
 pe:rc.pending=p
 ps:rc.params=Y.ps
 asg:rc.assign=Y.assign
 bd:rc.body=Y.body
 sz:Y.n<=rc.tmps.size
 rd:∀t,rep (cx w g F.hp) (getR Y.vars t) (rc.tmps.getD t undef)
def YAt(Y:YC)(l:Nat)(E:En)(p:Option Code)(F:FrS)(a:Act)(w:World)(g:Gh):Prop:=
 a.defers=[]/\a.tmps[Y.k]?=some (.func (.yield l) #[] #[])/\(E.w0.heap.size<=l\/E.X l)/\∃rc,w.heap[l]?=some (.loop rc)/\YRec Y p F w g rc
theorem YRec.le{Y:YC}{p:Option Code}{F F':FrS}{w w':World}{g g':Gh}{rc:Loop}(h:YRec Y p F w g rc)(hle:Cx.Le (cx w g F.hp) (cx w' g' F'.hp)):YRec Y p F' w' g' rc:=
 ⟨h.st,h.pe,h.ps,h.asg,h.bd,h.sz,fun t=>zfv hle _ _ (h.rd t)⟩
theorem ya1u{E:En}{n:Nat}{F F':FrS}{a':Act}{w w':World}{g g':Gh}{X:Nat->Prop}(h:Rel (E.fork w g F) n F' a' w' g'):Rel (E.forkX w g F X) n F' a' w' g':=
 ⟨h.sz,h.df,h.rd,h.mem,fun id b o h1 h2=>(h.base id b o h1 h2).imp_right .inl,h.keep.mono fun _ _ h=>.inl h,h.gz,h.gs,h.nu⟩
theorem ya6q{Y:YC}{l:Nat}:Stab [Y.k] (YAt Y l):=by
 intro E n F F' a a' w w' g g' p ⟨h1,h2,h3,rc,h4,h5⟩ hR hR' hd hk
 refine⟨hd.trans h1,(hk Y.k (by simp)).trans h2,h3,rc,?_,h5.le (zw7 hR (ya1u (X:=fun _=>False) hR') (fun _ h=>h.elim) (fun _ h=>h.elim))⟩
 rw[hR'.keep.block l (Array.getElem?_eq_some_iff.1 h4).1 (znd hR.mem h4 (by simp) (by simp))]
 exact h4
def zur:List Nat->List D->List (Nat×D)->List (Nat×D)
 |t::ts,d::ds,vs=>zur ts ds (put vs t d)
 | _,_,vs=>vs
theorem zuq{C:Cx}{N:Nat}:∀(ts:List Nat) (ds:List D) (vs:List Value) (vars:List (Nat×D)) (tm:Array Value),reps C ds vs->(∀t∈ts,t<N)->N<=tm.size->(∀t,rep C (getR vars t) (tm.getD t undef))->
  N<=((ts.zip vs).foldl (fun tmps (x:Tmp×Value)=>tmps.setIfInBounds x.1 x.2) tm).size/\∀t,rep C (getR (zur ts ds vars) t) (((ts.zip vs).foldl (fun tmps (x:Tmp×Value)=>tmps.setIfInBounds x.1 x.2) tm).getD t undef)
 |[],ds,vs,vars,tm,_,_,hs,h=>by
  cases ds<;>exact⟨hs,h⟩
 |t::ts,[],vs,vars,tm,hr,_,hs,h=>by
  simp only[reps] at hr
  subst hr
  exact⟨hs,h⟩
 |t::ts,d::ds,vs,vars,tm,hr,hlt,hs,h=>by
  simp only[reps] at hr
  obtain⟨v,vs',rfl,hd,hr⟩:=hr
  simp only[zur,List.zip_cons_cons,List.foldl_cons]
  refine zuq ts ds vs' _ _ hr (fun u hu=>hlt u (by simp[hu])) (by simpa using hs) fun u=>?_
  have hl:=hlt t (by simp)
  simp only[getR,zk2]
  by_cases e:t=u
  subst e
  simp only[if_true]
  have:(tm.setIfInBounds t v).getD t undef=v:=by
   simp[Array.getD,Nat.lt_of_lt_of_le hl hs]
  rw[this];exact hd
  simp only[e,if_false]
  have:(tm.setIfInBounds t v).getD u undef=tm.getD u undef:=by
   simp only[Array.getD_eq_getD_getElem?,Array.getElem?_setIfInBounds_ne e]
  rw[this];exact h u
def Ex.isN:Ex->Bool
 |.normal=>true
 | _=>false
def Ex.pend:Ex->Option Code
 |.normal=>none
 |.exit i=>some (.exit i)
 |.ret=>some .ret
section
variable {P : Program} {Y : YC} {l : Nat} {E : En} {n lim : Nat} {F : FrS} {a : Act} {w : World} {g : Gh}
def zo7(l:Nat):Nat->Prop:=fun b=>b=l
def zwl(P:Program)(lim:Nat)(Y:YC)(ds:List D)(heap:List (Nat×Blk))(nx:Nat)(e:Ex)(heap':List (Nat×Blk))(nx':Nat):Prop:=
 ds.length=Y.ps.size/\(∀t∈Y.ps.toList,t<Y.n)/\∃st1 st2,st2.heap=heap'/\st2.nx=nx'/\
  (∀(l:Nat) (B:List (Nat×Obj)),zp2 B->OkG P lim Y.n (some l) (JM B) Y.assign ⟨zur Y.ps.toList ds Y.vars,heap,nx⟩ () fun e s _=>e=.normal/\s=st1)/\
  ∀(l:Nat) (B:List (Nat×Obj)),zp2 B->OkG P lim Y.n (some l) (JM B) Y.body st1 () fun e' s _=>e'=e.to/\s=st2
theorem ya5g{st:St}(hF:F.on lim st)(hR:Rel E n F a w g)(hJ:YAt Y l E none F a w g){ds:List D}{vs:List Value}(hvs:reps (cx w g F.hp) ds vs){e:Ex}{heap':List (Nat×Blk)}{nx':Nat}(hO:zwl P lim Y ds st.heap st.nx e heap' nx'):
  ∃f tmps assign body,(Instr.yield l vs.toArray).run P w=.ok (.round l f tmps assign body) w/\RoundIn (zlm none) 0 P l f tmps assign body w fun x w'=>x=.returned (.bool e.isN)/\∃F' g',F'.on lim ⟨st.vars,heap',nx'⟩/\Rel E n F' a w' g'/\YAt Y l E e.pend F' a w' g':=by
 obtain⟨hlen,hlt,st1,st2,rfl,rfl,hA,hB⟩:=hO
 obtain⟨_,hyk,hnew,rc,hl,hrc⟩:=hJ
 have hsz:vs.toArray.size=rc.params.size:=by
  rw[hrc.ps,<-hlen,List.size_toArray,zdh _ _ hvs]
 refine⟨rc.fn,_,rc.assign,rc.body,run_yield hl hsz,?_⟩
 obtain⟨tm,htm⟩:∃tm,tm=(rc.params.zip vs.toArray).foldl (fun tmps (x:Tmp×Value)=>tmps.setIfInBounds x.1 x.2) rc.tmps:=⟨_,rfl⟩
 have htm2:tm=(Y.ps.toList.zip vs).foldl (fun tmps (x:Tmp×Value)=>tmps.setIfInBounds x.1 x.2) rc.tmps:=by
  rw[htm,<-Array.foldl_toList,hrc.ps];simp
 obtain⟨k1,k2⟩:=zuq Y.ps.toList ds vs Y.vars rc.tmps hvs hlt hrc.sz hrc.rd
 rw[<-htm2] at k1 k2
 have hX:∀b,zo7 l b->∃o,w.heap[b]?=some o/\∀cs T f,o≠.cells cs T f:=by
  intro b hb;rw[show b=l from hb];exact⟨_,hl,by simp⟩
 have hnewX:∀b,zo7 l b->E.w0.heap.size<=b\/E.X b:=by intro b hb;rw[show b=l from hb];exact hnew
 have hRb:Rel (E.forkX w g F (zo7 l)) Y.n ⟨getR (zur Y.ps.toList ds Y.vars),F.hp,F.nu⟩ {tmps:=tm,defers:=[]} w g:=
  ⟨k1,rfl,k2,hR.mem,fun id b o h1 h2=>.inr (.inl ⟨id,o,h1,h2⟩),Keep.refl _ _,⟨rfl,rfl⟩,fun _ _=>rfl,fun _ h=>h⟩
 have hNC:∀rc:Loop,zp2 [(l,.loop rc)]:=by
  intro rc x hx
  simp only[List.mem_singleton] at hx
  subst hx
  exact⟨by simp,by simp⟩
 show RoundIn (zlm none) 0 P l rc.fn ((rc.params.zip vs.toArray).foldl (fun tmps (x:Tmp×Value)=>tmps.setIfInBounds x.1 x.2) rc.tmps) rc.assign rc.body w _
 rw[<-htm,hrc.asg,hrc.bd]
 refine roundIn_of_wpIn trivial ?_
 show Y.assign.wpIn (zlm (some l)) 0 P _ _ w
 refine wpIn_mono (hA l [(l,.loop rc)] (hNC rc) (E.forkX w g F (zo7 l)) ⟨getR (zur Y.ps.toList ds Y.vars),F.hp,F.nu⟩ {tmps:=tm,defers:=[]} w g ⟨rfl,hF.2.1,hF.2.2⟩ hRb ⟨⟨[],rfl,List.nodup_nil,nofun⟩,fun x hx=>by
  simp only[List.mem_singleton] at hx
  subst hx
  exact hl⟩) ?_
 rintro e1 a1 w1 ⟨s1,_,F1,g1,⟨rfl,rfl⟩,hF1,hR1,hM1,hB1⟩
 have hl1:w1.heap[l]?=some (.loop rc):=hB1 (l,.loop rc) (by simp)
 refine⟨_,run_beginRound hl1 hrc.st,?_⟩
 obtain⟨rcb,hrcb⟩:∃rcb:Loop,rcb={rc with state:=.busy}:=⟨_,rfl⟩
 rw[<-hrcb]
 have hR2:Rel (E.forkX w g F (zo7 l)) Y.n F1 (zh4 a1) (w1.putObj l (.loop rcb)) g1:=hR1.setObjX hl1 (.inr (.inr rfl)) (by simp) (by simp) (by simp)
 have hl2:(w1.putObj l (.loop rcb)).heap[l]?=some (.loop rcb):=World.putObj_heap_same (Array.getElem?_eq_some_iff.1 hl1).1
 have hM2:zzo (E.forkX w g F (zo7 l)) a1.defers (w1.putObj l (.loop rcb)):=by
  obtain⟨Ds,hDs,hnd,hall⟩:=hM1
  refine⟨Ds,hDs,hnd,fun D hD=>⟨(hall D hD).1,?_⟩⟩
  have hne:D≠l:=by
   rintro rfl
   have:=(hall D hD).2
   rw[hl1] at this
   cases this
  rw[World.putObj_heap_other hne]
  exact(hall D hD).2
 show Y.body.wpIn (zlm (some l)) 0 P _ _ _
 refine wpIn_mono (hB l [(l,.loop rcb)] (hNC rcb) (E.forkX w g F (zo7 l)) F1 a1 (w1.putObj l (.loop rcb)) g1 hF1 hR2 ⟨hM2,fun x hx=>by
  simp only[List.mem_singleton] at hx
  subst hx
  exact hl2⟩) ?_
 rintro e2 a2 w2 ⟨s2,_,F2,g2,⟨rfl,rfl⟩,hF2,hR3,hM3,hB3⟩
 have hl3:w2.heap[l]?=some (.loop rcb):=hB3 (l,.loop rcb) (by simp)
 have fin:∀jump:Option Code,(Instr.endRound l jump).run P w2=.ok (.bool jump.isNone) (w2.putObj l (.loop {rcb with state:=if jump.isNone then .ready else .done,pending:=jump}))/\
   ∃F' g',F'.on lim ⟨st.vars,s2.heap,s2.nx⟩/\Rel E n F' a (w2.putObj l (.loop {rcb with state:=if jump.isNone then .ready else .done,pending:=jump})) g'/\YAt Y l E jump F' a (w2.putObj l (.loop {rcb with state:=if jump.isNone then .ready else .done,pending:=jump})) g':=by
  intro jump
  refine⟨run_endRound jump hl3,⟨F.rd,F2.hp,F2.nu⟩,g2,⟨hF.1,hF2.2.1,hF2.2.2⟩,?_⟩
  obtain⟨W3,hW3⟩:∃W3,W3=w2.putObj l (.loop {rcb with state:=if jump.isNone then .ready else .done,pending:=jump}):=⟨_,rfl⟩
  rw[<-hW3]
  have hl4:W3.heap[l]?=some (.loop {rcb with state:=if jump.isNone then .ready else .done,pending:=jump}):=by
   rw[hW3];exact World.putObj_heap_same (Array.getElem?_eq_some_iff.1 hl3).1
  have hR4:Rel (E.forkX w g F (zo7 l)) Y.n F2 (zh4 a2) W3 g2:=by
   rw[hW3];exact hR3.setObjX hl3 (.inr (.inr rfl)) (by simp) (by simp) (by simp)
  have hX2:∀b,zo7 l b->¬ownB g2 F2.hp b:=by
   intro b hb;rw[show b=l from hb];exact znd hR4.mem hl4 (by simp) (by simp)
  refine⟨hR.swap hR4 hX hX2 hnewX,hR.df,hyk,hnew,_,hl4,?_⟩
  have hle:=zw7 hR hR4 hX hX2
  rw[hrcb]
  refine⟨?_,rfl,hrc.ps,hrc.asg,hrc.bd,hrc.sz,fun t=>zfv (C':=cx W3 g2 F2.hp) hle _ _ (hrc.rd t)⟩
  cases jump<;>rfl
 cases e with
 |normal=>
  obtain⟨f1,f2⟩:=fin none
  exact⟨_,_,f1,rfl,f2⟩
 |exit i=>
  obtain⟨f1,f2⟩:=fin (some (.exit i))
  exact⟨_,_,f1,rfl,f2⟩
 |ret=>
  obtain⟨f1,f2⟩:=fin (some .ret)
  exact⟨_,_,f1,rfl,f2⟩
end
section
variable {S : Type}
abbrev RgF(S:Type):=Nat->Array Oper->Bool->St->List Nat->S->Option (St×List Nat×S)
def zu4(base:Nat)(h h':List (Nat×Blk))(ws ws':List Nat):Prop:=∀id,id<base->id∉ws'->id∉ws/\getL h' id=getL h id
theorem zu4.refl{base:Nat}{h:List (Nat×Blk)}{ws:List Nat}:zu4 base h h ws ws:=fun _ _ hw=>⟨hw,rfl⟩
theorem zu4.trans{base:Nat}{h h1 h2:List (Nat×Blk)}{ws ws1 ws2:List Nat}(a:zu4 base h h1 ws ws1)(b:zu4 base h1 h2 ws1 ws2):zu4 base h h2 ws ws2:=fun id hid hw=>by
 obtain⟨k1,k2⟩:=b id hid hw
 obtain⟨k3,k4⟩:=a id hid k1
 exact⟨k3,k2.trans k4⟩
variable {P : Program} {n : Nat} {r : Option Nat} {J : En -> S -> FrS -> Act -> World -> Gh -> Prop}
def ya53(P:Program)(base n:Nat)(r:Option Nat)(J:En->S->FrS->Act->World->Gh->Prop)(rgo:Nat->Array Oper->Bool->Bool)(rg:RgF S):Prop:=
 ∀id ops draw st ws s st' ws' s',rgo id ops draw=true->rg id ops draw st ws s=some (st',ws',s')->st.nx<=st'.nx/\zu4 base st.heap st'.heap ws ws'/\∀lim,st'.nx<=lim->OkG P lim n r J (.region id ops draw) st s fun e t q=>e=.normal/\t=st'/\q=s'
end
section
variable {S : Type} {P : Program} {tab : Nat -> TI} {call : FuncId -> List D -> List (Nat × Blk) -> Nat -> Option Out}
def zyh(S:Type)(call:FuncId->List D->List (Nat×Blk)->Nat->Option Out)(tab:Nat->TI)(pt:Nat->List (Nat×Nat))(base:Nat):RgF S:=fun id ops draw st ws s=>
 match zwx call tab base draw ops.toList ops.toList st ws [] with
 |some (st',ws',fps)=>bif draw then(bif ya2w (pt id) fps then some (st',ws',s) else none) else some (st',ws',s)
 |none=>none
def rgoK(K:List Nat)(n:Nat)(pt:Nat->List (Nat×Nat)):Nat->Array Oper->Bool->Bool:=fun id ops draw=>zjl n ops draw&&(!draw||ya7x ops (pt id))&&zog K ops
theorem zvj(hc:zkx P call)(hT:zhz P tab)(hm:P.follows .mixedOrders=true){pt:Nat->List (Nat×Nat)}{base n:Nat}{r:Option Nat}{K:List Nat}{J:En->S->FrS->Act->World->Gh->Prop}(hS:Stab K J):
  ya53 P base n r J (rgoK K n pt) (zyh S call tab pt base):=by
 intro id ops draw st ws s st' ws' s' hk h
 simp only[rgoK,za0,zau,Bool.not_eq_true'] at hk
 simp only[zyh] at h
 split at h
 rename_i st1 ws1 fps hr
 obtain⟨h1,h2,h3⟩:=zr8 hc _ _ _ _ _ _ _ hr
 cases draw with
 |false=>
  simp only[cond_false,za5,zaa] at h
  obtain⟨rfl,rfl,rfl⟩:=h
  refine⟨h1,h2,fun lim hlim=>?_⟩
  obtain⟨os,k1,_⟩:=h3 lim hlim
  exact .region0 hS (own:=true) hT hm hk.1.1 hk.2 ⟨os,st1,k1,nofun,rfl,rfl,rfl⟩
 |true=>
  simp only[cond_true] at h
  cases hs:ya2w (pt id) fps
  rw[hs] at h;cases h
  rw[hs] at h
  simp only[cond_true,za5,zaa] at h
  obtain⟨rfl,rfl,rfl⟩:=h
  refine⟨h1,h2,fun lim hlim=>?_⟩
  obtain⟨os,k1,k2⟩:=h3 lim hlim
  have hcov:=hk.1.2.resolve_left (by simp)
  refine .region0 hS (own:=true) hT hm hk.1.1 hk.2 ⟨os,st1,k1,fun _=>?_,rfl,rfl,rfl⟩
  rw[<-k2 rfl]
  exact zze hcov hs
 cases h
abbrev YbF:=List D->List (Nat×Blk)->Nat->List Nat->Option (Ex×List (Nat×Blk)×Nat×List Nat)
def zny(ks:List Nat)(o:Oper):Bool:=match o.op with
 |.call c=>match c.callee with
  |.value (.tmp t)=>hasN ks t
  | _=>false
 | _=>false
def zsz(ks:List Nat)(o:Oper):Option Nat:=match o.op with
 |.move (.tmp t)=>bif hasN ks t&&o.guard.isNone then o.dst else none
 | _=>none
def zsw(ys:List Nat)(dst:Option Nat):List Nat:=match dst with
 |none=>ys
 |some d=>ys.filter fun t=>!Nat.beq t d
theorem zqm{ys:List Nat}{dst:Option Nat}{t:Nat}(h:t∈zsw ys dst):t∈ys/\dst≠some t:=by
 cases dst with
 |none=>exact⟨h,nofun⟩
 |some d=>
  simp only[zsw,List.mem_filter,Bool.not_eq_true'] at h
  refine⟨h.1,fun e=>?_⟩
  cases e
  have:=h.2
  simp at this
def ya14(o:Oper):List Operand:=match o.op with
 |.call c=>c.args.toList
 | _=>[]
def St.putD(st:St)(dst:Option Nat)(d:D):St:=⟨match dst with|some t=>put st.vars t d|none=>st.vars,st.heap,st.nx⟩
def zti(yb:YbF)(o:Oper)(st:St)(ws:List Nat):Option (Ex×St×List Nat):=match opds true (getR st.vars) (ya14 o) with
 |(ds,true)=>match yb ds st.heap st.nx ws with
  |some (e,heap',nx',ws')=>some (e,⟨st.vars,heap',nx'⟩,ws')
  |none=>none
 | _=>none
def ya2f(yb:YbF)(ops:List Oper)(o:Oper)(st:St)(ws:List Nat)(p:Option Code):Option (St×List Nat×Option Code):=
 match o.guard with
 |none=>match p,zti yb o st ws with
  |none,some (e,st',ws')=>some (st'.putD o.dst (.bool e.isN),ws',e.pend)
  | _,_=>none
 |some (j,want)=>match zqr ops j with
  |none=>none
  |some t=>match gval want (getR st.vars t) with
   |some true=>match p,zti yb o st ws with
    |none,some (e,st',ws')=>some (st'.putD o.dst (.when true (.bool e.isN)),ws',e.pend)
    | _,_=>none
   |some false=>some (st.putD o.dst (.when false .undef),ws,p)
   |none=>none
def runY(yb:YbF)(call:FuncId->List D->List (Nat×Blk)->Nat->Option Out)(tab:Nat->TI)(base k:Nat)(ops:List Oper):List Oper->List Nat->St->List Nat->Option Code->Option (St×List Nat×Option Code)
 |[],_,st,ws,p=>some (st,ws,p)
 |o::l,ys,st,ws,p=>match zsz (k::ys) o with
  |some d=>runY yb call tab base k ops l (d::ys) (st.putD (some d) .undef) ws p
  |none=>bif zny (k::ys) o then
   match ya2f yb ops o st ws p with
   |some (st',ws',p')=>runY yb call tab base k ops l (zsw ys o.dst) st' ws' p'
   |none=>none
  else match ya17 call tab ops o st with
   |some out=>runY yb call tab base k ops l (zsw ys o.dst) (st.app o.dst out) (addW base ws out.eff) p
   |none=>none
def zwk(P:Program)(base:Nat)(Y:YC)(yb:YbF):Prop:=∀ds heap nx ws e heap' nx' ws',yb ds heap nx ws=some (e,heap',nx',ws')->nx<=nx'/\zu4 base heap heap' ws ws'/\∀lim,nx'<=lim->zwl P lim Y ds heap nx e heap' nx'
theorem zvs{F:FrS}{lim:Nat}{st:St}(h:F.on lim st)(dst:Option Nat)(d:D):(F.put dst d).on lim (st.putD dst d):=by
 obtain⟨h1,h2,h3⟩:=h
 refine⟨?_,h2,h3⟩
 funext u
 simp only[FrS.put,St.putD,h1]
 cases dst with
 |none=>simp
 |some t=>
  simp only[getR,zk2]
  by_cases e:t=u
  subst e;simp
  have:(some t==some u)=false:=by simpa using e
  simp[e,this]
theorem YAt.put{Y:YC}{l:Nat}{E:En}{p:Option Code}{F:FrS}{a:Act}{w:World}{g:Gh}(h:YAt Y l E p F a w g){dst:Option Nat}{d:D}{v:Value}(hd:dst≠some Y.k):YAt Y l E p (F.put dst d) (a.put dst v) w g:=by
 obtain⟨h1,h2,h3,rc,h4,h5⟩:=h
 refine⟨by rw[zgj];exact h1,?_,h3,rc,h4,⟨h5.st,h5.pe,h5.ps,h5.asg,h5.bd,h5.sz,h5.rd⟩⟩
 rw[zk1 (K:=[Y.k]) (a0:=a) (fun _ _=>rfl) (fun t ht=>by simp only[List.mem_singleton] at ht;rw[ht];exact hd) Y.k (by simp)]
 exact h2
theorem zmp{a:Act}(h:a.defers=[]):zh4 a=a:=by cases a;cases h;rfl
theorem zpr{base:Nat}{Y:YC}{yb:YbF}(hy:zwk P base Y yb){o:Oper}(hok:opOk o.op=true){ys:List Nat}(hyo:zny (Y.k::ys) o=true){st st':St}{ws ws':List Nat}{e:Ex}(h:zti yb o st ws=some (e,st',ws')):
  st.nx<=st'.nx/\zu4 base st.heap st'.heap ws ws'/\∀lim,st'.nx<=lim->∀(l n:Nat) (E:En) (F:FrS) (a:Act) (w:World) (g:Gh),F.on lim st->Rel E n F a w g->YAt Y l E none F a w g->(∀t∈ys,a.tmps[t]?=some (.func (.yield l) #[] #[]))->
   ∀(K:Act->World->Prop) (Q:Exit->Act->World->Prop),(∀F' w' g',F'.on lim st'->Rel E n F' a w' g'->YAt Y l E e.pend F' a w' g'->K (a.put o.dst (.bool e.isN)) w')->o.wpIn (zlm none) 0 P a w K Q:=by
 unfold zti at h
 split at h
 rename_i ds hds
 split at h
 rename_i e1 heap' nx' ws1 hb
 simp only[za5,zaa] at h
 obtain⟨rfl,rfl,rfl⟩:=h
 obtain⟨h1,h2,h3⟩:=hy _ _ _ _ _ _ _ _ hb
 refine⟨h1,h2,fun lim hlim l n E F a w g hF hR hJ hys K Q hK=>?_⟩
 unfold zny at hyo
 split at hyo
 rename_i c hop
 split at hyo
 rename_i t hc
 have htv:a.tmps[t]?=some (.func (.yield l) #[] #[]):=by
  rcases List.mem_cons.1 (zru.1 hyo) with rfl|h
  exact hJ.2.1
  exact hys t h
 have hx1:∀x∈o.op.operands.toList,zd0 x=true:=fun x hx=>List.all_eq_true.1 hok x hx
 have hma:∀x∈c.args.toList,x∈o.op.operands.toList:=by
  intro x hx
  rw[hop]
  simp only[Op.operands,Call.operands,hc,Array.toList_append,List.mem_append]
  exact .inr hx
 have hya:ya14 o=c.args.toList:=by unfold ya14;rw[hop]
 rw[hya,<-hF.1] at hds
 have hvs:=zki hR.rd _ _ _ hds rfl (List.all_eq_true.2 fun x hx=>hx1 x (hma x hx))
 obtain⟨f,tmps,assign,body,hrun,hrd⟩:=ya5g hF hR hJ hvs (h3 lim hlim)
 have hev:a.eval (.tmp t)=.func (.yield l) #[] #[]:=by
  show a.tmps.getD t undef=_
  rw[Array.getD_eq_getD_getElem?,htv];rfl
 refine⟨fun _ _=>trivial,?_⟩
 have hex:(o.semAt (zlm none).round a.eval).run P w=.ok (.round l f tmps assign body) w:=by
  rw[Oper.semAt_eq _ _ _ (fun c' hc'=>by rw[hop] at hc';cases hc')]
  unfold execOp
  simp only[hop,resolve,hc,hev,Deferred.ofValue,pure_bind,invoke]
  rw[<-hrun]
  congr 2
  apply Array.ext';simp
 rw[hex,Oper.uponIn_round]
 refine⟨nofun,hrd.mono ?_⟩
 rintro x w' ⟨rfl,F',g',k1,k2,k3⟩
 exact hK F' w' g' k1 k2 k3
 cases hyo
 cases hyo
 cases h
 cases h
theorem zk9(hc:zkx P call)(hT:zhz P tab){base n:Nat}{Y:YC}{yb:YbF}(hy:zwk P base Y yb){ops:Array Oper}(hok:zyq n ops=true)(hK:zog [Y.k] ops=true):∀(l:List Oper) (i:Nat) (ys:List Nat) (st st':St) (ws ws':List Nat) (p p':Option Code),(∀j,l[j]?=ops[i+j]?)->
  runY yb call tab base Y.k ops.toList l ys st ws p=some (st',ws',p')->st.nx<=st'.nx/\zu4 base st.heap st'.heap ws ws'/\∀lim,st'.nx<=lim->∀(l0:Nat) (E:En) (F:FrS) (a:Act) (w:World) (g:Gh),F.on lim st->Rel E n F a w g->YAt Y l0 E p F a w g->(∀t∈ys,a.tmps[t]?=some (.func (.yield l0) #[] #[]))->
   wpOpsIn (zlm none) 0 P ops (fun e a' w'=>e=.normal/\∃F' g',F'.on lim st'/\Rel E n F' a' w' g'/\YAt Y l0 E p' F' a' w' g') (List.range' i l.length) a w
 |[],i,ys,st,st',ws,ws',p,p',_,h=>by
  simp only[runY,za5,zaa] at h
  obtain⟨rfl,rfl,rfl⟩:=h
  exact⟨za4 _,.refl,fun lim _ l0 E F a w g hF hR hJ _=>⟨rfl,F,g,hF,hR,hJ⟩⟩
 |o::l,i,ys,st,st',ws,ws',p,p',hl,h=>by
  have hi:ops[i]?=some o:=by have:=hl 0;simpa using this.symm
  have hl':∀j,l[j]?=ops[i+1+j]?:=fun j=>by have:=hl (j+1);simpa[Nat.add_assoc,Nat.add_comm 1 j] using this
  obtain⟨q1,q2,q3⟩:=zvr hok hi
  have hdk:=zsy hK hi
  have hdk':o.dst≠some Y.k:=hdk Y.k (by simp)
  simp only[runY] at h
  simp only[zak,List.range'_succ]
  have hless:∀(l0:Nat) (a:Act) (v:Value),(∀t∈ys,a.tmps[t]?=some (.func (.yield l0) #[] #[]))->∀t∈zsw ys o.dst,(a.put o.dst v).tmps[t]?=some (.func (.yield l0) #[] #[]):=by
   intro l0 a v hys t ht
   obtain⟨k1,k2⟩:=zqm ht
   rw[zk1 (K:=[t]) (a0:=a) (fun _ _=>rfl) (fun u hu=>by simp only[List.mem_singleton] at hu;rw[hu];exact k2) t (by simp)]
   exact hys t k1
  split at h
  rename_i d hmv
  obtain⟨g1,g2,g3⟩:=zk9 hc hT hy hok hK l (i+1) _ _ _ _ _ _ _ hl' h
  refine⟨g1,g2,fun lim hlim l0 E F a w g hF hR hJ hys=>?_⟩
  unfold zsz at hmv
  split at hmv
  rename_i t hop
  cases hb:(hasN (Y.k::ys) t&&o.guard.isNone)
  rw[hb] at hmv;cases hmv
  rw[hb] at hmv
  simp only[cond_true] at hmv
  simp only[za0,Option.isNone_iff_eq_none] at hb
  have htv:a.tmps[t]?=some (.func (.yield l0) #[] #[]):=by
   rcases List.mem_cons.1 (zru.1 hb.1) with rfl|h
   exact hJ.2.1
   exact hys t h
  have hev:a.eval (.tmp t)=.func (.yield l0) #[] #[]:=by
   show a.tmps.getD t undef=_
   rw[Array.getD_eq_getD_getElem?,htv];rfl
  have hw:Region.wanted o (yielded ops a.tmps)=true:=by simp[Region.wanted,hb.2]
  simp only[wpOpsIn,hi,hw,if_true]
  refine⟨fun _ _=>trivial,?_⟩
  have hex:(o.semAt (zlm none).round a.eval).run P w=.ok (.value (.func (.yield l0) #[] #[])) w:=by
   rw[Oper.semAt_eq _ _ _ (fun c' hc'=>by rw[hop] at hc';cases hc')]
   unfold execOp
   simp only[hop,hev,Sem.run_pure]
  rw[hex,Oper.uponIn_value]
  rw[hmv] at hdk' q2 ⊢
  refine g3 lim hlim l0 E _ _ _ g (zvs hF (some d) .undef) (hR.put q2 (by simp only[rep])) (hJ.put hdk') fun u hu=>?_
  have hlt:d<a.tmps.size:=Nat.lt_of_lt_of_le (q2 d rfl) hR.sz
  by_cases e:d=u
  subst e
  simp[Act.put,hlt]
  rw[zk1 (K:=[u]) (a0:=a) (fun _ _=>rfl) (fun x hx=>by simp only[List.mem_singleton] at hx;rw[hx];simpa using e) u (by simp)]
  rcases List.mem_cons.1 hu with rfl|hu
  exact absurd rfl e
  exact hys u hu
  cases hmv
  rename_i hmv
  cases hyo:zny (Y.k::ys) o with
  |true=>
   rw[hyo] at h
   simp only[cond_true] at h
   split at h
   rename_i st1 ws1 p1 hx
   unfold ya2f at hx
   split at hx
   rename_i hgd
   split at hx
   rename_i e st2 ws2 hd
   simp only[za5,zaa] at hx
   obtain⟨rfl,rfl,rfl⟩:=hx
   obtain⟨h1,h2,h3⟩:=zpr hy q1 hyo hd
   obtain⟨g1,g2,g3⟩:=zk9 hc hT hy hok hK l (i+1) _ _ _ _ _ _ _ hl' h
   refine⟨zao h1 g1,h2.trans g2,fun lim hlim l0 E F a w g hF hR hJ hys=>?_⟩
   have hw:Region.wanted o (yielded ops a.tmps)=true:=by simp[Region.wanted,hgd]
   simp only[wpOpsIn,hi,hw,if_true]
   refine h3 lim (zao g1 hlim) l0 n E F a w g hF hR hJ hys _ _ fun F' w' g' k1 k2 k3=>?_
   exact g3 lim hlim l0 E _ _ _ g' (zvs k1 o.dst (.bool e.isN)) (k2.put q2 (by simp only[rep])) (k3.put hdk') (hless l0 a _ hys)
   cases hx
   rename_i j want hgd
   split at hx
   cases hx
   rename_i t ht
   have ht':zo9 ops j=some t:=by
    rw[zo0] at ht
    simpa[zo9] using ht
   split at hx
   rename_i hgv
   split at hx
   rename_i e st2 ws2 hd
   simp only[za5,zaa] at hx
   obtain⟨rfl,rfl,rfl⟩:=hx
   obtain⟨h1,h2,h3⟩:=zpr hy q1 hyo hd
   obtain⟨g1,g2,g3⟩:=zk9 hc hT hy hok hK l (i+1) _ _ _ _ _ _ _ hl' h
   refine⟨zao h1 g1,h2.trans g2,fun lim hlim l0 E F a w g hF hR hJ hys=>?_⟩
   have hlt:t<a.tmps.size:=Nat.lt_of_lt_of_le (q3 j want t hgd ht') hR.sz
   have hw:Region.wanted o (yielded ops a.tmps)=true:=zs0 hgd ht' hlt (by rw[<-hF.1] at hgv;exact hR.rd t) (by rw[<-hF.1] at hgv;exact hgv)
   simp only[wpOpsIn,hi,hw,if_true]
   refine h3 lim (zao g1 hlim) l0 n E F a w g hF hR hJ hys _ _ fun F' w' g' k1 k2 k3=>?_
   exact g3 lim hlim l0 E _ _ _ g' (zvs k1 o.dst (.when true (.bool e.isN))) (k2.put q2 (by simp[rep])) (k3.put hdk') (hless l0 a _ hys)
   cases hx
   rename_i hgv
   simp only[za5,zaa] at hx
   obtain⟨rfl,rfl,rfl⟩:=hx
   obtain⟨g1,g2,g3⟩:=zk9 hc hT hy hok hK l (i+1) _ _ _ _ _ _ _ hl' h
   refine⟨g1,g2,fun lim hlim l0 E F a w g hF hR hJ hys=>?_⟩
   have hlt:t<a.tmps.size:=Nat.lt_of_lt_of_le (q3 j want t hgd ht') hR.sz
   have hw:Region.wanted o (yielded ops a.tmps)=false:=zs0 hgd ht' hlt (by rw[<-hF.1] at hgv;exact hR.rd t) (by rw[<-hF.1] at hgv;exact hgv)
   simp only[wpOpsIn,hi,hw,zb0,if_false]
   exact⟨fun _ _=>trivial,g3 lim hlim l0 E _ _ _ g (zvs hF o.dst (.when false .undef)) (hR.put q2 (by simp[rep])) (hJ.put hdk') (hless l0 a _ hys)⟩
   cases hx
   cases h
  |false=>
   rw[hyo] at h
   simp only[cond_false] at h
   split at h
   rename_i out hx
   obtain⟨h1,h2⟩:=zs4 hc hx
   obtain⟨g1,g2,g3⟩:=zk9 hc hT hy hok hK l (i+1) _ _ _ _ _ _ _ hl' h
   refine⟨zao h1 g1,zu4.trans (fun id hid hw=>?_) g2,fun lim hlim l0 E F a w g hF hR hJ hys=>?_⟩
   obtain⟨k3,k4⟩:=zq4 base _ _ id hid hw
   refine⟨k3,?_⟩
   simp only[St.app,zpo]
   exact ztf k4
   obtain⟨f1,f2⟩:=h2 lim (zao g1 hlim)
   have hk1:wpOp P ops (fun e a' w'=>e=.normal/\∃g',Rel (E.fork w g F) n (F.app o out) a' w' g') i (wpOps P ops (fun e a' w'=>e=.normal/\∃g',Rel (E.fork w g F) n (F.app o out) a' w' g') []) a w:=
    zot hT hi q1 q2 q3 hR.fork (zw8 hF f1) fun v w' g' hrel=>⟨rfl,g',hrel⟩
   rw[<-wpOps_cons] at hk1
   have hk2:=znu (R:=fun a' w'=>(∃g',Rel (E.fork w g F) n (F.app o out) a' w' g')/\kept (Y.k::zsw ys o.dst) a a') (fun a' w' ⟨⟨_,h⟩,_⟩=>h.df) none 0 [] _ _ _ (zll (K:=Y.k::zsw ys o.dst) (a0:=a) _ _ _ (fun j hj o' ho'=>by
    simp only[List.mem_singleton] at hj
    rw[hj,hi] at ho'
    cases ho'
    intro t ht
    rcases List.mem_cons.1 ht with rfl|ht
    exact hdk'
    exact(zqm ht).2) (fun _ _=>rfl) hk1)
   rw[show zrz a []=a from zmp hJ.1] at hk2
   refine zu5 hk2 ?_
   rintro a' w' ⟨hd',⟨g',hrel⟩,hkept⟩
   rw[zmp hd'] at hrel hkept
   refine g3 lim hlim l0 E _ a' w' g' (ya3j hF o _ f2) (hR.join hrel) ?_ fun t ht=>(hkept t (by simp[ht])).trans (hys t (zqm ht).1)
   exact ya6q E n F _ a a' w w' g g' p hJ (by rw[zmp hJ.1];exact hR) (by rw[zmp hd'];exact hrel) (by rw[hd',hJ.1]) (fun t ht=>hkept t (by simp only[List.mem_singleton] at ht;simp[ht]))
   cases h
def rgY(yb:YbF)(call:FuncId->List D->List (Nat×Blk)->Nat->Option Out)(tab:Nat->TI)(pt:Nat->List (Nat×Nat))(base k:Nat):RgF (Option Code):=fun id ops draw st ws p=>
 bif draw then zyh (Option Code) call tab pt base id ops draw st ws p else runY yb call tab base k ops.toList ops.toList [] st ws p
theorem ya34(hc:zkx P call)(hT:zhz P tab)(hm:P.follows .mixedOrders=true){pt:Nat->List (Nat×Nat)}{base n:Nat}{Y:YC}{yb:YbF}(hy:zwk P base Y yb)(l0:Nat):
  ya53 P base n none (YAt Y l0) (rgoK [Y.k] n pt) (rgY yb call tab pt base Y.k):=by
 intro id ops draw st ws p st' ws' p' hk h
 unfold rgY at h
 cases draw with
  |true=>exact zvj hc hT hm ya6q id ops true st ws p st' ws' p' hk h
  |false=>
   simp only[cond_false] at h
   simp only[rgoK,zjl,za0] at hk
   obtain⟨h1,h2,h3⟩:=zk9 hc hT hy hk.1.1.1 hk.2 _ 0 _ _ _ _ _ _ _ (fun j=>by simp) h
   refine⟨h1,h2,fun lim hlim E F a w g hF hR hJ=>wpIn_region ?_⟩
   have hb:=zmp hJ.1
   rw[hb] at hR
   have:=h3 lim hlim l0 E F a w g hF hR hJ nofun
   rw[List.range_eq_range']
   simp only[Array.length_toList] at this
   have hmono:∀(l:List Nat) (a:Act) (w:World),wpOpsIn (zlm none) 0 P ops (fun e a' w'=>e=.normal/\∃F' g',F'.on lim st'/\Rel E n F' a' w' g'/\YAt Y l0 E p' F' a' w' g') l a w->
     wpOpsIn (zlm none) 0 P ops (fun e a' w'=>∃st'_1 s' F' g',(e=.normal/\st'_1=st'/\s'=p')/\F'.on lim st'_1/\Rel E n F' (zh4 a') w' g'/\YAt Y l0 E s' F' a' w' g') l a w:=by
    intro l
    induction l with
    |nil=>
     rintro a w ⟨_,F',g',k1,k2,k3⟩
     exact⟨st',p',F',g',⟨rfl,rfl,rfl⟩,k1,by rw[zmp k3.1];exact k2,k3⟩
    |cons i l ih=>
     intro a w h
     simp only[wpOpsIn] at h ⊢
     cases ho:ops[i]? with
     |none=>simp only[ho] at h ⊢;exact ih _ _ h
     |some o=>
      simp only[ho] at h ⊢
      split at h
      rename_i hw
      rw[if_pos hw]
      refine⟨h.1,?_⟩
      have h2:=h.2
      generalize (o.semAt (zlm none).round a.eval).run P w=res at h2
      cases res with
      |ok x w'=>
       cases x with
       |value v=>exact ih _ _ h2
       |skip=>exact ih _ _ h2
       |defer d=>exact ih _ _ h2
       |enter f args=>
        rw[Oper.uponIn_enter] at h2 ⊢
        refine⟨h2.1,h2.2.1,fun cs hr=>?_⟩
        obtain⟨e,w2,fr,hq,hrest⟩:=h2.2.2 cs hr
        refine⟨e,w2,fr,?_,hrest⟩
        cases e with
        |returned v=>exact ih _ _ hq
        |panicked ch=>cases hq.1
        |outgrown=>obtain⟨_,_,h1,_⟩:=hq;cases h1
       |row row args=>
        rw[Oper.uponIn_row] at h2 ⊢
        exact⟨h2.1,h2.2.mono fun v w'' hq=>ih _ _ hq⟩
       |round l f tmps assign body=>
        rw[Oper.uponIn_round] at h2 ⊢
        refine⟨h2.1,h2.2.mono fun e w'' hq=>?_⟩
        cases e with
        |returned v=>exact ih _ _ hq
        |panicked ch=>cases hq.1
        |outgrown=>obtain⟨_,_,h1,_⟩:=hq;cases h1
       | _=>exact h2.elim
      |halt x w'=>
       cases x with
       |panic v=>cases (show Exit.panic _=Exit.normal/\_ from h2).1
       | _=>exact h2.elim
      rename_i hw
      rw[if_neg hw]
      exact⟨h.1,ih _ _ h.2⟩
   exact hmono _ _ _ this
end
end Go.Tm
