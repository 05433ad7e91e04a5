/- Texts of the proof. -/
import Derived.Test.YtbedjbhndfbpcaaGreatChecked
import Derived.KernelRfl
import Derived.Lib.Overlaps
import Derived.Test.YtbedjbhndfbpcaaGreatSeatOnePn
import Derived.Test.YtbedjbhndfbpcaaGreatSeatOnePl
set_option linter.unusedVariables false
set_option linter.unusedSimpArgs false
namespace Go.Tm
def mx{α:Type}(f g:α->D)(k:Nat)(l:List α):List D:=(l.take k).map f++(l.drop k).map g
section
variable {α : Type} (f g : α -> D)
theorem ya9w(k:Nat)(l:List α):(mx f g k l).length=l.length:=by
 simp only[mx,zaq,List.length_map,List.length_take,List.length_drop];omega
end
theorem Goes.pre{lim n0:Nat}{st s:St}(id k:Nat)(items:List D){e s':Nat}{p:Bool}(hd:getL st.heap id=some (.arr e s' p items))(h:Goes lim n0 ⟨st.vars,put st.heap id (.arr e s' p (items.take k)),st.nx⟩ s):Goes lim n0 st s:=by
 intro E n F a w g hE hF hR
 obtain⟨h1,h2,h3⟩:=hF
 let items':=items.take k
 have hid:F.hp id=some (.arr e s' p items):=by rw[h2];exact hd
 have hp:∀i,getL (put st.heap id (.arr e s' p items')) i=if id=i then some (.arr e s' p items') else F.hp i:=by
  intro i;rw[zk2,h2]
 have hne:∀i,getL (put st.heap id (.arr e s' p items')) i≠none↔F.hp i≠none:=by
  intro i
  rw[hp]
  by_cases e:id=i
  subst e;simp[hid]
  rw[if_neg e]
 have hown:ownB g (getL (put st.heap id (.arr e s' p items')))=ownB g F.hp:=by
  funext b
  apply propext
  constructor
  rintro⟨i,o,k1,k2⟩;exact⟨i,o,(hne i).1 k1,k2⟩
  rintro⟨i,o,k1,k2⟩;exact⟨i,o,(hne i).2 k1,k2⟩
 have hcx:cx w g (getL (put st.heap id (.arr e s' p items')))=cx w g F.hp:=by simp only[cx,hown]
 refine h E n ⟨F.rd,getL (put st.heap id (.arr e s' p items')),F.nu⟩ a w g hE ⟨h1,rfl,h3⟩ ⟨hR.sz,hR.df,fun t=>by rw[hcx];exact hR.rd t,⟨fun i blk hb=>?_,fun i i' b o o' k1 k2=>hR.mem.inj i i' b o o' ((hne i).1 k1) ((hne i').1 k2),fun i hi=>?_,?_,hR.mem.fl⟩,fun i b o k1=>hR.base i b o ((hne i).1 k1),hR.keep,hR.gz,hR.gs,hR.nu⟩
 have hb:getL (put st.heap id (.arr e s' p items')) i=some blk:=hb
 rw[hcx]
 rw[hp] at hb
 by_cases e:id=i
 subst e
 rw[if_pos rfl] at hb
 cases hb
 rcases hR.mem.hd id _ hid with⟨e1,e2⟩|⟨b,cs,e1,e2,e3,e4⟩
 exact .inl ⟨by simp[items',e1],e2⟩
 refine .inr ⟨b,cs,e1,e2,zao (Nat.mul_le_mul_right _ (by simp[items'];omega)) e3,zhl _ _ _ _ _ e4⟩
 rw[if_neg e] at hb
 exact hR.mem.hd i blk hb
 obtain⟨k1,k2⟩:=hR.mem.nw i hi
 refine⟨k1,?_⟩
 rcases Classical.em (getL (put st.heap id (.arr e s' p items')) i=none) with e|e
 exact e
 exact absurd k2 ((hne i).1 e)
 rw[hown];exact hR.mem.zs
theorem znz{α β:Type}{g:α->D}{h:β->D}(hg:∀x,(g x).ids=[])(hh:∀y,(h y).ids=[])(l:List (α×β)):zw0 (mapD g h l)=[]:=by
 induction l with
 |nil=>rfl
 |cons x l ih=>simp only[mapD,zai,zw0,hg,hh,zas] at ih ⊢;exact ih
def Blk.renM(f:Nat->Nat):Blk->Blk
 |.map es=>.map es
 |b=>b.ren f
def mvHM(f:Nat->Nat):List (Nat×Blk)->List (Nat×Blk)
 |[]=>[]
 |(i,b)::r=>(f i,b.renM f)::mvHM f r
def Blk.idsM:Blk->List Nat
 |.map _=>[]
 |b=>b.ids
def ya1t:List (Nat×Blk)->List Nat
 |[]=>[]
 |(i,b)::r=>i::(b.idsM++ya1t r)
def ya0g:List (Nat×Blk)->Prop
 |[]=>True
 |(_,.map es)::r=>zw0 es=[]/\ya0g r
 | _::r=>ya0g r
theorem zsi(f:Nat->Nat):∀l:List (D×D),zw0 l=[]->zsj f l=l
 |[],_=>rfl
 |x::l,h=>by
  simp only[zw0,List.append_eq_nil_iff] at h
  simp only[zsj,zn9 f _ h.1.1,zn9 f _ h.1.2,zsi f l h.2]
theorem zvw(f:Nat->Nat):∀l:List (Nat×Blk),ya0g l->mvHM f l=mvH f l/\ya1t l=idsH l
 |[],_=>⟨rfl,rfl⟩
 |(i,.map es)::r,h=>by
  obtain⟨h1,h2⟩:=zvw f r h.2
  have:=zsi f es h.1
  simp only[mvHM,mvH,Blk.renM,Blk.ren,this,h1,ya1t,idsH,Blk.idsM,Blk.ids,h.1,h2]
  exact⟨trivial,trivial⟩
 |(i,.box cs)::r,h=>by
  obtain⟨h1,h2⟩:=zvw f r h
  simp only[mvHM,mvH,Blk.renM,h1,ya1t,idsH,Blk.idsM,h2]
  exact⟨trivial,trivial⟩
 |(i,.arr e s p l)::r,h=>by
  obtain⟨h1,h2⟩:=zvw f r h
  simp only[mvHM,mvH,Blk.renM,h1,ya1t,idsH,Blk.idsM,h2]
  exact⟨trivial,trivial⟩
theorem Goes.mp{lim n0:Nat}{st s:St}(V H:List Nat)(ps:List (Nat×Nat))(h5:ya0g (zf5 H st.heap))(h1:(⟨mvV (mvF ps) (zf5 V st.vars),mvHM (mvF ps) (zf5 H st.heap),s.nx⟩:St)=s:=by first|with_reducible rfl|rfl|(simp only[go_sem,Nat.reduceBEq,Nat.reduceAdd];rfl))
  (h2:n0<=s.nx:=by exact lb rfl) (h3:s.nx<=lim:=by exact lb rfl) (h4:mvOk ps n0 s.nx (idsV (zf5 V st.vars)++ya1t (zf5 H st.heap))=true:=by kernel_rfl):Goes lim n0 st s:=by
 obtain⟨e1,e2⟩:=zvw (mvF ps) _ h5
 rw[e1] at h1
 rw[e2] at h4
 exact .mv V H ps h1 h2 h3 h4
theorem zba{P:Program}{K:FuncId}{args:List D}{H:List (Nat×Blk)}{r:D}{eff:List (Nat×Option Blk)}{a b:Nat}(n:Nat)(h:zbv P K args H r eff (a,b))(hn:(Nat.ble b n&&Nat.ble a b)=true:=by rfl):
  zbv P K (D.renL (bsw a n (b-a)) args) (mvH (bsw a n (b-a)) H) (r.ren (bsw a n (b-a))) (renE (bsw a n (b-a)) eff) (n,n+(b-a)):=by
 simp only[za0] at hn
 have hn1:=lb hn.1
 have hn2:=lb hn.2
 refine zq0 (π:=bsw a n (b-a)) (zzi (by omega)) _ (fun id h1 h2=>?_) h
 have h1:a<=id:=h1
 have h2:id<b:=h2
 have e1:(Nat.ble a id&&Nat.blt id (a+(b-a)))=true:=by
  simp only[za0]
  exact⟨zap h1,zap (by omega)⟩
 simp only[bsw,e1,cond_true]
 omega
end Go.Tm
namespace Go.Proofs
open Go.Tm
def Tryz.tmL:List (Nat×TI):=[
 (3,⟨6,1,[],[.int .i64 0],0,0,0,false,some .i64,false,[]⟩),
 (4,⟨8,1,[],[.bool false],0,0,0,false,none,false,[]⟩),
 (5,⟨6,1,[],[.int .u8 0],0,0,0,false,some .u8,false,[]⟩),
 (9,⟨5,1,[],[.str []],0,0,0,false,none,false,[]⟩),
 (22,⟨3,1,[],[.imm 0 [] 0],3,1,8,false,none,false,[.int .i64 0]⟩),
 (24,⟨2,2,[(0,1,false),(1,1,false)],[.imm 0 [] 0,.imm 0 [] 0],0,0,0,false,none,false,[]⟩),
 (25,⟨3,1,[],[.imm 0 [] 0],44,4,40,true,none,false,[.int .u8 0,.int .i64 0,.int .i64 0,.str []]⟩),
 (27,⟨6,1,[],[.int .i64 0],0,0,0,false,some .i64,false,[]⟩),
 (30,⟨3,1,[],[.imm 0 [] 0],40,15,264,true,none,false,[.int .i64 0,.int .i64 0,.imm 0 [] 0,.imm 0 [] 0,.imm 0 [] 0,.imm 0 [] 0,.int .u8 0,.int .i64 0,.imm 0 [] 0,.str [],.str [],.imm 0 [] 0,.imm 0 [] 0,.imm 0 [] 0,.int .i64 0]⟩),
 (31,⟨3,1,[],[.imm 0 [] 0],55,10,88,true,none,false,[.int .i64 0,.int .i64 0,.int .u8 0,.int .i64 0,.int .i64 0,.int .i64 0,.int .i64 0,.str [],.int .i64 0,.int .i64 0]⟩),
 (33,⟨2,2,[(0,1,false),(1,1,false)],[.imm 0 [] 0,.imm 0 [] 0],0,0,0,false,none,false,[]⟩),
 (34,⟨3,1,[],[.imm 0 [] 0],9,1,16,false,none,false,[.str []]⟩),
 (35,⟨3,1,[],[.imm 0 [] 0],75,5,48,true,none,false,[.int .i64 0,.int .i64 0,.int .i64 0,.int .i64 0,.str []]⟩),
 (36,⟨3,1,[],[.imm 0 [] 0],93,3,32,true,none,false,[.int .i64 0,.int .i64 0,.str []]⟩),
 (38,⟨2,7,[(0,1,false),(1,1,false),(2,1,false),(3,1,false),(4,1,false),(5,1,false),(6,1,false)],[.int .u8 0,.int .i64 0,.imm 0 [] 0,.str [],.str [],.imm 0 [] 0,.imm 0 [] 0],0,0,0,false,none,false,[]⟩),
 (40,⟨2,15,[(0,1,false),(1,1,false),(2,2,true),(4,1,false),(5,1,false),(6,7,true),(13,1,false),(14,1,false)],[.int .i64 0,.int .i64 0,.imm 0 [] 0,.imm 0 [] 0,.imm 0 [] 0,.imm 0 [] 0,.int .u8 0,.int .i64 0,.imm 0 [] 0,.str [],.str [],.imm 0 [] 0,.imm 0 [] 0,.imm 0 [] 0,.int .i64 0],0,0,0,false,none,false,[]⟩),
 (44,⟨2,4,[(0,1,false),(1,1,false),(2,1,false),(3,1,false)],[.int .u8 0,.int .i64 0,.int .i64 0,.str []],0,0,0,false,none,true,[]⟩),
 (49,⟨3,1,[],[.imm 0 [] 0],53,5,48,true,none,false,[.int .u8 0,.int .i64 0,.int .i64 0,.int .i64 0,.str []]⟩),
 (53,⟨2,5,[(0,1,false),(1,1,false),(2,1,false),(3,1,false),(4,1,false)],[.int .u8 0,.int .i64 0,.int .i64 0,.int .i64 0,.str []],0,0,0,false,none,true,[]⟩),
 (55,⟨2,10,[(0,1,false),(1,1,false),(2,1,false),(3,1,false),(4,1,false),(5,1,false),(6,1,false),(7,1,false),(8,1,false),(9,1,false)],[.int .i64 0,.int .i64 0,.int .u8 0,.int .i64 0,.int .i64 0,.int .i64 0,.int .i64 0,.str [],.int .i64 0,.int .i64 0],0,0,0,false,none,true,[]⟩),
 (57,⟨6,1,[],[.int .u64 0],0,0,0,false,some .u64,false,[]⟩),
 (73,⟨2,3,[(0,1,false),(1,1,false),(2,1,false)],[.int .i64 0,.int .i64 0,.str []],0,0,0,false,none,true,[]⟩),
 (75,⟨2,5,[(0,1,false),(1,1,false),(2,3,true)],[.int .i64 0,.int .i64 0,.int .i64 0,.int .i64 0,.str []],0,0,0,false,none,true,[]⟩),
 (81,⟨2,17,[(0,15,true),(15,1,false),(16,1,false)],[.int .i64 0,.int .i64 0,.imm 0 [] 0,.imm 0 [] 0,.imm 0 [] 0,.imm 0 [] 0,.int .u8 0,.int .i64 0,.imm 0 [] 0,.str [],.str [],.imm 0 [] 0,.imm 0 [] 0,.imm 0 [] 0,.int .i64 0,.imm 0 [] 0,.imm 0 [] 0],0,0,0,false,none,false,[]⟩),
 (87,⟨2,5,[(0,1,false),(1,1,false),(2,1,false),(3,1,false),(4,1,false)],[.int .i64 0,.imm 0 [] 0,.int .i64 0,.str [],.str []],0,0,0,false,none,false,[]⟩),
 (89,⟨2,12,[(0,1,false),(1,5,true),(6,1,false),(7,1,false),(8,1,false),(9,1,false),(10,1,false),(11,1,false)],[.int .u8 0,.int .i64 0,.imm 0 [] 0,.int .i64 0,.str [],.str [],.int .i64 0,.int .i64 0,.imm 0 [] 0,.int .i64 0,.int .i64 0,.int .i64 0],0,0,0,false,none,false,[]⟩),
 (93,⟨2,3,[(0,1,false),(1,1,false),(2,1,false)],[.int .i64 0,.int .i64 0,.str []],0,0,0,false,none,true,[]⟩),
 (105,⟨9,1,[],[.nilmap],9,1,0,false,none,false,[.int .i64 0]⟩),
 (125,⟨3,1,[],[.imm 0 [] 0],89,12,144,true,none,false,[.int .u8 0,.int .i64 0,.imm 0 [] 0,.int .i64 0,.str [],.str [],.int .i64 0,.int .i64 0,.imm 0 [] 0,.int .i64 0,.int .i64 0,.int .i64 0]⟩),
 (143,⟨4,10,[(0,1,false),(1,1,false),(2,1,false),(3,1,false),(4,1,false),(5,1,false),(6,1,false),(7,1,false),(8,1,false),(9,1,false)],[.str [],.str [],.str [],.str [],.str [],.str [],.str [],.str [],.str [],.str []],0,0,0,false,none,false,[]⟩),
 (155,⟨3,1,[],[.imm 0 [] 0],5,1,1,false,none,false,[.int .u8 0]⟩),
 (168,⟨2,2,[(0,1,false),(1,1,false)],[.imm 0 [] 0,.bool false],0,0,0,false,none,false,[]⟩),
 (193,⟨6,1,[],[.int .u64 0],0,0,0,false,some .u64,false,[]⟩)]
def Tryz.tm(t:Nat):TI:=match getL Tryz.tmL t with|some x=>x|none=>default
theorem Tryz.tmAll:(Tryz.tmL.all fun x=>zd3 Tryz.prog x.1 x.2&&(!x.2.eqs||zuy Tryz.prog x.1 x.2))=true:=by kernel_rfl
theorem Tryz.tmOk:zhz Tryz.prog Tryz.tm:=ya57 Tryz.tmAll
theorem Tryz.tmMixed:Tryz.prog.follows .mixedOrders=true:=by kernel_rfl
theorem Tryz.tm_3:Tryz.tm 3=⟨6,1,[],[.int .i64 0],0,0,0,false,some .i64,false,[]⟩:=by kernel_rfl
theorem Tryz.tm_4:Tryz.tm 4=⟨8,1,[],[.bool false],0,0,0,false,none,false,[]⟩:=by kernel_rfl
theorem Tryz.tm_5:Tryz.tm 5=⟨6,1,[],[.int .u8 0],0,0,0,false,some .u8,false,[]⟩:=by kernel_rfl
theorem Tryz.tm_9:Tryz.tm 9=⟨5,1,[],[.str []],0,0,0,false,none,false,[]⟩:=by kernel_rfl
theorem Tryz.tm_22:Tryz.tm 22=⟨3,1,[],[.imm 0 [] 0],3,1,8,false,none,false,[.int .i64 0]⟩:=by kernel_rfl
theorem Tryz.tm_24:Tryz.tm 24=⟨2,2,[(0,1,false),(1,1,false)],[.imm 0 [] 0,.imm 0 [] 0],0,0,0,false,none,false,[]⟩:=by kernel_rfl
theorem Tryz.tm_25:Tryz.tm 25=⟨3,1,[],[.imm 0 [] 0],44,4,40,true,none,false,[.int .u8 0,.int .i64 0,.int .i64 0,.str []]⟩:=by kernel_rfl
theorem Tryz.tm_27:Tryz.tm 27=⟨6,1,[],[.int .i64 0],0,0,0,false,some .i64,false,[]⟩:=by kernel_rfl
theorem Tryz.tm_30:Tryz.tm 30=⟨3,1,[],[.imm 0 [] 0],40,15,264,true,none,false,[.int .i64 0,.int .i64 0,.imm 0 [] 0,.imm 0 [] 0,.imm 0 [] 0,.imm 0 [] 0,.int .u8 0,.int .i64 0,.imm 0 [] 0,.str [],.str [],.imm 0 [] 0,.imm 0 [] 0,.imm 0 [] 0,.int .i64 0]⟩:=by kernel_rfl
theorem Tryz.tm_31:Tryz.tm 31=⟨3,1,[],[.imm 0 [] 0],55,10,88,true,none,false,[.int .i64 0,.int .i64 0,.int .u8 0,.int .i64 0,.int .i64 0,.int .i64 0,.int .i64 0,.str [],.int .i64 0,.int .i64 0]⟩:=by kernel_rfl
theorem Tryz.tm_33:Tryz.tm 33=⟨2,2,[(0,1,false),(1,1,false)],[.imm 0 [] 0,.imm 0 [] 0],0,0,0,false,none,false,[]⟩:=by kernel_rfl
theorem Tryz.tm_34:Tryz.tm 34=⟨3,1,[],[.imm 0 [] 0],9,1,16,false,none,false,[.str []]⟩:=by kernel_rfl
theorem Tryz.tm_35:Tryz.tm 35=⟨3,1,[],[.imm 0 [] 0],75,5,48,true,none,false,[.int .i64 0,.int .i64 0,.int .i64 0,.int .i64 0,.str []]⟩:=by kernel_rfl
theorem Tryz.tm_36:Tryz.tm 36=⟨3,1,[],[.imm 0 [] 0],93,3,32,true,none,false,[.int .i64 0,.int .i64 0,.str []]⟩:=by kernel_rfl
theorem Tryz.tm_38:Tryz.tm 38=⟨2,7,[(0,1,false),(1,1,false),(2,1,false),(3,1,false),(4,1,false),(5,1,false),(6,1,false)],[.int .u8 0,.int .i64 0,.imm 0 [] 0,.str [],.str [],.imm 0 [] 0,.imm 0 [] 0],0,0,0,false,none,false,[]⟩:=by kernel_rfl
theorem Tryz.tm_40:Tryz.tm 40=⟨2,15,[(0,1,false),(1,1,false),(2,2,true),(4,1,false),(5,1,false),(6,7,true),(13,1,false),(14,1,false)],[.int .i64 0,.int .i64 0,.imm 0 [] 0,.imm 0 [] 0,.imm 0 [] 0,.imm 0 [] 0,.int .u8 0,.int .i64 0,.imm 0 [] 0,.str [],.str [],.imm 0 [] 0,.imm 0 [] 0,.imm 0 [] 0,.int .i64 0],0,0,0,false,none,false,[]⟩:=by kernel_rfl
theorem Tryz.tm_44:Tryz.tm 44=⟨2,4,[(0,1,false),(1,1,false),(2,1,false),(3,1,false)],[.int .u8 0,.int .i64 0,.int .i64 0,.str []],0,0,0,false,none,true,[]⟩:=by kernel_rfl
theorem Tryz.tm_49:Tryz.tm 49=⟨3,1,[],[.imm 0 [] 0],53,5,48,true,none,false,[.int .u8 0,.int .i64 0,.int .i64 0,.int .i64 0,.str []]⟩:=by kernel_rfl
theorem Tryz.tm_53:Tryz.tm 53=⟨2,5,[(0,1,false),(1,1,false),(2,1,false),(3,1,false),(4,1,false)],[.int .u8 0,.int .i64 0,.int .i64 0,.int .i64 0,.str []],0,0,0,false,none,true,[]⟩:=by kernel_rfl
theorem Tryz.tm_55:Tryz.tm 55=⟨2,10,[(0,1,false),(1,1,false),(2,1,false),(3,1,false),(4,1,false),(5,1,false),(6,1,false),(7,1,false),(8,1,false),(9,1,false)],[.int .i64 0,.int .i64 0,.int .u8 0,.int .i64 0,.int .i64 0,.int .i64 0,.int .i64 0,.str [],.int .i64 0,.int .i64 0],0,0,0,false,none,true,[]⟩:=by kernel_rfl
theorem Tryz.tm_57:Tryz.tm 57=⟨6,1,[],[.int .u64 0],0,0,0,false,some .u64,false,[]⟩:=by kernel_rfl
theorem Tryz.tm_73:Tryz.tm 73=⟨2,3,[(0,1,false),(1,1,false),(2,1,false)],[.int .i64 0,.int .i64 0,.str []],0,0,0,false,none,true,[]⟩:=by kernel_rfl
theorem Tryz.tm_75:Tryz.tm 75=⟨2,5,[(0,1,false),(1,1,false),(2,3,true)],[.int .i64 0,.int .i64 0,.int .i64 0,.int .i64 0,.str []],0,0,0,false,none,true,[]⟩:=by kernel_rfl
theorem Tryz.tm_81:Tryz.tm 81=⟨2,17,[(0,15,true),(15,1,false),(16,1,false)],[.int .i64 0,.int .i64 0,.imm 0 [] 0,.imm 0 [] 0,.imm 0 [] 0,.imm 0 [] 0,.int .u8 0,.int .i64 0,.imm 0 [] 0,.str [],.str [],.imm 0 [] 0,.imm 0 [] 0,.imm 0 [] 0,.int .i64 0,.imm 0 [] 0,.imm 0 [] 0],0,0,0,false,none,false,[]⟩:=by kernel_rfl
theorem Tryz.tm_87:Tryz.tm 87=⟨2,5,[(0,1,false),(1,1,false),(2,1,false),(3,1,false),(4,1,false)],[.int .i64 0,.imm 0 [] 0,.int .i64 0,.str [],.str []],0,0,0,false,none,false,[]⟩:=by kernel_rfl
theorem Tryz.tm_89:Tryz.tm 89=⟨2,12,[(0,1,false),(1,5,true),(6,1,false),(7,1,false),(8,1,false),(9,1,false),(10,1,false),(11,1,false)],[.int .u8 0,.int .i64 0,.imm 0 [] 0,.int .i64 0,.str [],.str [],.int .i64 0,.int .i64 0,.imm 0 [] 0,.int .i64 0,.int .i64 0,.int .i64 0],0,0,0,false,none,false,[]⟩:=by kernel_rfl
theorem Tryz.tm_93:Tryz.tm 93=⟨2,3,[(0,1,false),(1,1,false),(2,1,false)],[.int .i64 0,.int .i64 0,.str []],0,0,0,false,none,true,[]⟩:=by kernel_rfl
theorem Tryz.tm_105:Tryz.tm 105=⟨9,1,[],[.nilmap],9,1,0,false,none,false,[.int .i64 0]⟩:=by kernel_rfl
theorem Tryz.tm_125:Tryz.tm 125=⟨3,1,[],[.imm 0 [] 0],89,12,144,true,none,false,[.int .u8 0,.int .i64 0,.imm 0 [] 0,.int .i64 0,.str [],.str [],.int .i64 0,.int .i64 0,.imm 0 [] 0,.int .i64 0,.int .i64 0,.int .i64 0]⟩:=by kernel_rfl
theorem Tryz.tm_143:Tryz.tm 143=⟨4,10,[(0,1,false),(1,1,false),(2,1,false),(3,1,false),(4,1,false),(5,1,false),(6,1,false),(7,1,false),(8,1,false),(9,1,false)],[.str [],.str [],.str [],.str [],.str [],.str [],.str [],.str [],.str [],.str []],0,0,0,false,none,false,[]⟩:=by kernel_rfl
theorem Tryz.tm_155:Tryz.tm 155=⟨3,1,[],[.imm 0 [] 0],5,1,1,false,none,false,[.int .u8 0]⟩:=by kernel_rfl
theorem Tryz.tm_168:Tryz.tm 168=⟨2,2,[(0,1,false),(1,1,false)],[.imm 0 [] 0,.bool false],0,0,0,false,none,false,[]⟩:=by kernel_rfl
theorem Tryz.tm_193:Tryz.tm 193=⟨6,1,[],[.int .u64 0],0,0,0,false,some .u64,false,[]⟩:=by kernel_rfl
theorem zS:Seat Tryz.prog Tryz.tm:=⟨Tryz.tmOk,Tryz.tmMixed⟩
end Go.Proofs
namespace Go.Tm
open Go.RowKit Go.WideShapes
theorem zvq{P:Program}{K:FuncId}{fn:Func}{t r:TypeId}(hf:P.funcs[K]?=some fn)(hname:(fn.name== "runtime.NumGoroutine")=false)(hb:fn.body.isNone=true)(hn:Extern.findNext fn=none)
  (he:Extern.find fn=some (Extern.SlicesOverlaps.overlaps #[t,t] #[r])) {ti:TI} (ht:zd3 P t ti=true) (hk:ti.kind=3):ya2e P K:=by
 intro w x y la ca lb cb cx cy Tx Ty hne hs hx hy hz
 obtain⟨el,j,hu,hj,hj1,hj2,hj3,hj4,_,hel'⟩:=zcs ht hk
 subst hel'
 have hsz:∀w:World,(sizeOf ti.el).run P w=.ok j.size w:=fun w=>by simp[sizeOf,typeInfo,hj]
 obtain⟨xb,xo,xs⟩:=x
 simp only at hs hx hne
 subst hs
 rw[run_callFunc_extern hf hname hb hn he,Go.Lib.run_overlaps_apart w t r ti.el hu j.size hsz ⟨xb,xo,none⟩ y la ca lb cb hne Tx Ty cx.size cy.size (by simp[World.shape?,hx]) (by simp[World.shape?,hy]) hz (by simp[World.frozen?,hx]) (by simp[World.frozen?,hx])]
 rfl
theorem zo2{P:Program}{K:FuncId}{i k s n m:Nat}{e s':Nat}{p p':Bool}{l l':List D}{post:List D}{H:List (Nat×Blk)}(hE:zrh P K)(hH:getL H i=some (.arr e s p l))(hik:i≠k)(hm0:0<m\/0<n)
  (hin:∀c,capK c=true->n<=c->m<=c->zbv P K (.ref i s 0 n (some c)::post) H (.ref i s 0 m (some c)) [(i,some (.arr e s' p' l'))] (k,k))
  (hout:∀c,capK c=true->n<=c->c<m->zbv P K (.ref i s 0 n (some c)::post) H (.ref k s 0 m none) [(k,some (.arr e s' p' l')),(i,none)] (k,k+1)):
  zbv P K (.ref i s 0 n (some uC)::post) H (.ref k s 0 m (some uC)) [(k,some (.arr e s' p' l')),(i,none)] (k,k+1):=by
 refine⟨hE,fun fr w g hp nu vs hM hHs hnw hvs=>?_⟩
 simp only[reps] at hvs
 obtain⟨v0,vs,rfl,h0,hvs⟩:=hvs
 have h0':=h0
 simp only[rep] at h0
 obtain⟨q1,ad,cap,rfl,q2,q3,q4,q5,q6⟩:=h0
 have hc:rep (cx w g hp) (.ref i s 0 n (some cap)) (.slice ad n cap):=by
  simp only[rep]
  exact⟨q1,ad,cap,rfl,q2,q3,q4,⟨fun c h _=>by cases h;rfl,fun h=>by cases h⟩,q6⟩
 have hargs:reps (cx w g hp) (.ref i s 0 n (some cap)::post) (.slice ad n cap::vs):=by
  simp only[reps]
  exact⟨_,_,rfl,hc,hvs⟩
 have hck:capK cap=true:=zap (by omega)
 by_cases hcase:cap<m
 refine((hout cap hck q2 hcase).2 fr w g hp nu _ hM hHs hnw hargs).mono ?_
 rintro ee w' ⟨v,g',he,ha⟩
 exact⟨v,g',he,ha.gz,ha.gs,ha.keep,ha.mem,ha.own,zyj ha.res rfl⟩
 have hq6:=q6
 rcases q6 with q6|⟨b1,T1,n1,z1,_,z2,z3⟩
 omega
 refine((hin cap hck q2 (by omega)).2 fr w g hp nu _ hM hHs (fun id h1 h2=>by have h1:k<=id:=h1;have h2:id<k:=h2;omega) hargs).mono ?_
 rintro ee w' ⟨v,g',he,ha⟩
 have hki:Nat.beq k i=false:=zbq fun e=>hik e.symm
 have hnk:nu k=true:=hnw k (za4 _) (Nat.lt_succ_self _)
 have hpi:hp i=some (.arr e s p l):=hHs i _ hH
 have hni:nu i=false:=by
  cases h:nu i
  rfl
  rw[(hM.nw i h).2] at hpi;cases hpi
 have hσi:g'.σ i=some (b1,0):=(ha.gs i hni).trans z1
 let E0:En:=⟨w',fr,fun _=>True,g',effN nu (k,k)⟩
 let F0:FrS:=⟨fun _=>.undef,effH hp [(i,some (.arr e s' p' l'))],effN nu (k,k)⟩
 let a0:Act:=⟨#[],[]⟩
 have hR0:Rel E0 0 F0 a0 w' g':=⟨Nat.zero_le _,rfl,fun _=>by simp only[F0,rep],ha.mem,fun _ _ _ _ _=>.inr trivial,Keep.refl _ _,⟨rfl,rfl⟩,fun _ _=>rfl,fun _ h=>h⟩
 have hpi':effH hp [(i,some (.arr e s' p' l'))] i=some (.arr e s' p' l'):=by simp[effH,getL]
 have hnk0:F0.nu k=true:=by
  show effN nu (k,k) k=true
  simp[effN,hnk]
 obtain⟨r1,_⟩:=Rel.made hR0 (m:=k) (blk:=.arr e s' p' l') (loc:=some (b1,0)) (kl:=some i) (w':=w') hnk0 ((Keep.refl _ w').mono fun _ _ h=>h)
  (by rintro b o h;cases h;exact .inr ⟨i,0,rfl,by show effH hp [(i,some (.arr e s' p' l'))] i≠none;rw[hpi'];simp,hσi⟩)
  (by
   intro C hC hle hrf hσ
   rcases ha.mem.hd i _ hpi' with⟨_,h⟩|⟨b',cs,h1,h2,h3,h4⟩
   have h:g'.σ i=none:=h
   rw[hσi] at h;cases h
   have h1:g'.σ i=some (b',0):=h1
   rw[hσi] at h1
   simp only[za5,zaa] at h1
   obtain⟨rfl,_⟩:=h1
   exact .inr ⟨b1,cs,hσ,by subst hC;exact h2,h3,zh2 (C:={cx w' g' (effH hp [(i,some (.arr e s' p' l'))]) with rf:=!p'}) (C':={C with rf:=!p'}) (zqo hle rfl _ _ id) _ _ _ _ (by subst hC;rfl) h4⟩)
 have hhp:effH (effH hp [(i,some (.arr e s' p' l'))]) ((k,some (.arr e s' p' l'))::kill (some i))=effH hp [(k,some (.arr e s' p' l')),(i,none)]:=by
  funext x
  simp only[effH,kill,getL]
  cases h1:Nat.beq k x
  cases h2:Nat.beq i x<;>simp
  simp
 have hnn:effN (effN nu (k,k)) (k,k+1)=effN nu (k,k+1):=by
  funext x
  simp only[effN]
  have:(decide (k<=x)&&decide (x<k))=false:=by
   cases hx:decide (k<=x)<;>simp at hx ⊢
   omega
  rw[this];simp
 have hmem:=r1.mem
 simp only[FrS.eff,F0] at hmem
 rw[hhp,hnn] at hmem
 have hpk:effH hp [(k,some (.arr e s' p' l')),(i,none)] i=none:=by simp[effH,getL,hki]
 refine⟨v,setσ g' k (some (b1,0)),he,ha.gz,fun id hid=>?_,ha.keep,hmem,?_,?_⟩
 have:id≠k:=by rintro rfl;rw[hnk] at hid;cases hid
 show(if id=k then _ else g'.σ id)=g.σ id
 rw[if_neg this]
 exact ha.gs id hid
 rintro b0 ⟨id,o,h1,h2⟩
 have h2:(if id=k then some (b1,0) else g'.σ id)=some (b0,o):=h2
 by_cases hidk:id=k
 rw[if_pos hidk] at h2
 simp only[za5,zaa] at h2
 obtain⟨rfl,rfl⟩:=h2
 exact ha.own b1 ⟨i,0,by rw[hpi'];simp,hσi⟩
 rw[if_neg hidk] at h2
 by_cases hidi:id=i
 subst hidi
 rw[hpk] at h1
 exact absurd rfl h1
 refine ha.own b0 ⟨id,o,?_,h2⟩
 have a1:Nat.beq k id=false:=zbq fun e=>hidk e.symm
 have a2:Nat.beq i id=false:=zbq fun e=>hidi e.symm
 simp only[effH,getL,a1,a2] at h1 ⊢
 exact h1
 have hres:=ha.res
 simp only[rep] at hres ⊢
 obtain⟨_,ad',cap',hv,k1,k2,k3,k4,k5⟩:=hres
 have hcc:=k4.1 cap rfl (zap (by omega))
 subst hcc
 have hsh:w'.shape? b1=some (T1,n1):=by
  have:=ha.keep.shp b1 (zp6 (w:=w) z2)
  rw[this];exact z2
 refine⟨by simp[cx],ad',cap',hv,k1,k2,k3,⟨(fun c h hk=>by cases h;cases hk),(fun h=>by cases h)⟩,?_⟩
 rcases k5 with k5|⟨b,T,nn,y1,y2,y3,y4⟩
 exact .inl k5
 have y1:g'.σ i=some (b,0):=y1
 rw[hσi] at y1
 simp only[za5,zaa] at y1
 obtain⟨rfl,_⟩:=y1
 exact .inr ⟨b1,T,nn,by simp[cx,setσ],y2,y3,y4⟩
end Go.Tm
namespace Go.Proofs
open Go.Tm Go.RowKit Go.WideShapes
set_option maxRecDepth 100000
set_option linter.unusedSimpArgs false
set_option linter.unusedVariables false
attribute [local go_sem] zfj runE runK ziy zrj aop opd zo5 opds opdO ev zu9 keep List.any natbeq Bool.false_or Bool.true_or zgc cond_true cond_false Bool.cond_false_right Bool.cond_true_left beq_true beq_false imp_self implies_true getR getL put St.app effL del nwB ztw Nat.lt_irrefl Nat.lt_add_one ztz za4 Nat.beq_refl zjr zho capS zpj zne zdi D.ids D.idsL bin zy2 zp7 binT zua Tm.part zn7 zqp oneD zql zn4 srcD zgn zo8 decide_true gval zqr D.cells zai List.map_nil List.take List.drop List.length_map List.append Int.toNat_natCast and_true true_and decide_false zak zbo zag zas Bool.and_true Bool.true_and Bool.not_false Bool.not_true ne_eq not_false_eq_true BEq.rfl List.getElem?_cons_zero List.getElem?_cons_succ List.getElem?_nil Nat.zero_add List.all_cons List.all_nil List.isEmpty_cons List.isEmpty_nil Option.getD_some Option.getD_none List.any_cons List.any_nil List.drop_succ_cons List.drop_zero unfL unf okM okML low3 zb2 true_or or_true Nat.zero_mul Nat.zero_le fpOf zo6
theorem ya5n:ya2e Tryz.prog 120:=zvq (r:=4) Tryz.func120 (by kernel_rfl) (by kernel_rfl) (by kernel_rfl) (by kernel_rfl) (Tryz.tmOk.1 36 (by decide)) rfl
theorem ya44(i j k:Nat)(hij:i≠j)(hik:i≠k)(hjk:j≠k)(L:List D)(x:D)(P Q:Bool)(hL:L.length<1000000):
  zbv Tryz.prog 101 [.ref i 3 0 L.length (some uC),.int .i64 (L.length:Int),.ref j 3 0 1 (some 1)] [(i,.arr 93 3 P L),(j,.arr 93 3 Q [x])] (.ref k 3 0 (L.length+1) (some uC)) [(k,some (.arr 93 3 (P&&Q) (L++[x]))),(i,none)] (k,k+1):=by
 have bij:Nat.beq i j=false:=zbq hij
 have bik:Nat.beq i k=false:=zbq hik
 have bjk:Nat.beq j k=false:=zbq hjk
 have bji:Nat.beq j i=false:=zbq (Ne.symm hij)
 have bki:Nat.beq k i=false:=zbq (Ne.symm hik)
 have bkj:Nat.beq k j=false:=zbq (Ne.symm hjk)
 have n10:¬((1:Int)=0):=by omega
 have hx:(1:Nat)<=1:=za4 _
 refine zeh Tryz.tmOk Tryz.func101 rfl (by decide) (lb rfl) (by simp) ?_
 intro hwf
 refine .seq ?_
 refine .pp zS [0,1,2] (by intro q hq;simp only[go_sem,zat,Nat.reduceSub,Int.reduceEq,Nat.reduceLT,Nat.reduceDiv,Nat.reduceAdd,Nat.reduceBEq,Nat.reduceLeDiff,reduceCtorEq,Nat.reduceEqDiff,Nat.reduceMod,capK,bij,bik,bjk,bji,bki,bkj];exact hq) ?_
 refine .seq ?_
 refine .pp zS [0,1,2] (by intro q hq;simp only[go_sem,zat,Nat.reduceSub,Int.reduceEq,Nat.reduceLT,Nat.reduceDiv,Nat.reduceAdd,Nat.reduceBEq,Nat.reduceLeDiff,reduceCtorEq,Nat.reduceEqDiff,Nat.reduceMod,capK,Tryz.tm_36,Tryz.tm_3,bij,bik,bjk,bji,bki,bkj];exact hq) ?_
 refine .seq ?_
 refine .pp zS [0,1,2] (by intro q hq;simp only[go_sem,zat,Nat.reduceSub,Int.reduceEq,Nat.reduceLT,Nat.reduceDiv,Nat.reduceAdd,Nat.reduceBEq,Nat.reduceLeDiff,reduceCtorEq,Nat.reduceEqDiff,Nat.reduceMod,capK,Tryz.tm_36,Tryz.tm_3,bij,bik,bjk,bji,bki,bkj];exact hq) ?_
 refine .seq (.seq ?_)
 refine .pp zS [0,1,2,7] (by intro q hq;simp only[go_sem,zat,Nat.reduceSub,Int.reduceEq,Nat.reduceLT,Nat.reduceDiv,Nat.reduceAdd,Nat.reduceBEq,Nat.reduceLeDiff,reduceCtorEq,Nat.reduceEqDiff,Nat.reduceMod,capK,Tryz.tm_36,Tryz.tm_3];exact hq) ?_
 refine .cond rfl rfl (fun hc=>by simp at hc) (fun hc=>?_)
 refine .skip (.seq ?_)
 refine .pp zS [0,1,2,7] (by intro q hq;simp only[go_sem,zat,Nat.reduceSub,Int.reduceEq,Nat.reduceLT,Nat.reduceDiv,Nat.reduceAdd,Nat.reduceBEq,Nat.reduceLeDiff,reduceCtorEq,Nat.reduceEqDiff,Nat.reduceMod,capK,Tryz.tm_36,Tryz.tm_3];exact hq) ?_
 refine .seq (.seq ?_)
 refine .pp zS [0,1,2,7,8] (by intro q hq;simp only[go_sem,zat,Nat.reduceSub,Int.reduceEq,Nat.reduceLT,Nat.reduceDiv,Nat.reduceAdd,Nat.reduceBEq,Nat.reduceLeDiff,reduceCtorEq,Nat.reduceEqDiff,Nat.reduceMod,capK,Tryz.tm_36,Tryz.tm_3];exact hq) ?_
 refine .cond rfl rfl (fun hc=>?_) (fun hc=>by simp at hc)
 refine .seq ?_
 refine .pp zS [0,2] (by intro q hq;simp only[go_sem,zat,Nat.reduceSub,Int.reduceEq,Nat.reduceLT,Nat.reduceDiv,Nat.reduceAdd,Nat.reduceBEq,Nat.reduceLeDiff,reduceCtorEq,Nat.reduceEqDiff,Nat.reduceMod,capK,Tryz.tm_36,Tryz.tm_3,bij,bik,bjk,bji,bki,bkj];exact hq) ?_
 refine .ret ⟨.inr rfl,retH [j,k] ?_ ?_⟩
 simp only[zmq,resL,resD,resT,go_sem,zat,Nat.reduceSub,Int.reduceEq,Nat.reduceLT,Nat.reduceDiv,Nat.reduceAdd,Nat.reduceBEq,Nat.reduceLeDiff,reduceCtorEq,Nat.reduceEqDiff,Nat.reduceMod,Tryz.f101]
 simp only[zf5,getL,effL,put,del,Nat.beq_refl,cond_true,cond_false,bij,bik,bjk,bji,bki,bkj,List.take_length]
theorem ya7o(i j k:Nat)(hij:i≠j)(hik:i≠k)(hjk:j≠k)(L:List D)(x:D)(P Q:Bool)(at' c:Nat)(hck:capK c=true)(hat:at'<L.length)(hL:L.length<1000000)(h1:L.length<=c)(h2:c<L.length+1):
  zbv Tryz.prog 101 [.ref i 3 0 L.length (some c),.int .i64 (at':Int),.ref j 3 0 1 (some 1)] [(i,.arr 93 3 P L),(j,.arr 93 3 Q [x])] (.ref k 3 0 (L.length+1) none) [(k,some (.arr 93 3 (P&&Q) (L.take at'++x::L.drop at'))),(i,none)] (k,k+1):=by
 obtain rfl:c=L.length:=by omega
 have hck2:=hck
 have bij:Nat.beq i j=false:=zbq hij
 have bik:Nat.beq i k=false:=zbq hik
 have bjk:Nat.beq j k=false:=zbq hjk
 have bji:Nat.beq j i=false:=zbq (Ne.symm hij)
 have bki:Nat.beq k i=false:=zbq (Ne.symm hik)
 have bkj:Nat.beq k j=false:=zbq (Ne.symm hjk)
 have hw:wr .i64 ((L.length:Int)+((1:Nat):Int))=((L.length+1:Nat):Int):=zj6 _ _ (by show(-9223372036854775808:Int)<=_;omega) (by show _<=(9223372036854775807:Int);omega)
 have hw2:wr .i64 (((L.length+1:Nat):Int)-(at':Int))=((L.length+1-at':Nat):Int):=by
  rw[zj6 _ _ (by show(-9223372036854775808:Int)<=_;omega) (by show _<=(9223372036854775807:Int);omega)]
  omega
 have hw3:wr .i64 ((at':Int)+((1:Nat):Int))=((at'+1:Nat):Int):=zj6 _ _ (by show(-9223372036854775808:Int)<=_;omega) (by show _<=(9223372036854775807:Int);omega)
 have ha:at'+(L.length+1-at')=L.length+1:=by omega
 have pq:(P&&Q&&P)=(P&&Q):=by cases P<;>cases Q<;>rfl
 have hm1:Nat.min 1 (L.length+1-at')=1:=by show min 1 (L.length+1-at')=1;omega
 have hm2:Nat.min (L.length-at') (L.length+1-(at'+1))=L.length-at':=by show min (L.length-at') (L.length+1-(at'+1))=L.length-at';omega
 have tk:(L.take at').length=at':=by simp;omega
 have e1:List.take at' (List.take at' L++List.replicate (L.length+1-at') (D.agg [D.int .i64 0,D.int .i64 0,D.str []]))=List.take at' L:=by
  rw[List.take_append_of_le_length (by omega),List.take_of_length_le (by omega)]
 have e2:List.drop (at'+1) (List.take at' L++List.replicate (L.length+1-at') (D.agg [D.int .i64 0,D.int .i64 0,D.str []]))=List.replicate (L.length-at') (D.agg [D.int .i64 0,D.int .i64 0,D.str []]):=by
  rw[List.drop_append,List.drop_eq_nil_of_le (by omega),tk,zas,List.drop_replicate]
  congr 1;omega
 have e3:List.take (at'+1) (List.take at' L++[x]++List.replicate (L.length-at') (D.agg [D.int .i64 0,D.int .i64 0,D.str []]))=List.take at' L++[x]:=by
  rw[List.take_append_of_le_length (by simp;omega),List.take_of_length_le (by simp;omega)]
 have e4:List.drop (at'+1+(L.length-at')) (List.take at' L++[x]++List.replicate (L.length-at') (D.agg [D.int .i64 0,D.int .i64 0,D.str []]))=[]:=List.drop_eq_nil_of_le (by simp;omega)
 have e5:List.take (L.length-at') (List.drop at' L)=List.drop at' L:=List.take_of_length_le (by simp)
 have l1:(List.take at' L++List.replicate (L.length+1-at') (D.agg [D.int .i64 0,D.int .i64 0,D.str []])).length=L.length+1:=by simp;omega
 have l2:(List.take at' L++[x]++List.replicate (L.length-at') (D.agg [D.int .i64 0,D.int .i64 0,D.str []])).length=L.length+1:=by simp;omega
 refine zeh Tryz.tmOk Tryz.func101 rfl (by decide) (lb rfl) (by simp) ?_
 intro hwf
 refine .seq (.plx zS hck [0,1,2] ?_)
 refine .seq (.plx zS (ai Tryz.tm_36 (ai Tryz.tm_3 hck)) [0,1,2] ?_)
 refine .seq (.plx zS (ai Tryz.tm_36 (ai Tryz.tm_3 hck)) [0,1,2] ?_)
 refine .seq (.seq (.plx zS (ai Tryz.tm_36 (ai Tryz.tm_3 hck)) [0,1,2,7] ?_))
 refine .cond rfl rfl (fun hc=>by simp at hc) (fun hc=>?_)
 refine .skip (.seq (.plx zS (ai Tryz.tm_36 (ai Tryz.tm_3 hck)) [0,1,2,7] ?_))
 refine .seq (.seq (.plx zS (ai Tryz.tm_36 (ai Tryz.tm_3 hck)) [0,1,2,7,8] ?_))
 refine .cond rfl rfl (fun hc=>by simp at hc;omega) (fun hc=>?_)
 refine .skip (.seq (.seq (.plx zS (ai Tryz.tm_36 (ai Tryz.tm_3 (ai hck hw))) [0,1,2,7,8] ?_)))
 refine .cond rfl rfl (fun hc=>?_) (fun hc=>by simp at hc;omega)
 refine .seq ?_
 refine .pp zS [0,1,2,7,8] (by intro q hq;simp only[go_sem,zat,Nat.reduceSub,Int.reduceEq,Nat.reduceLT,Nat.reduceDiv,Nat.reduceAdd,Nat.reduceBEq,Nat.reduceLeDiff,reduceCtorEq,Nat.reduceEqDiff,Nat.reduceMod,Tryz.tm_36,Tryz.tm_3,hck,hw,hw2,ha,zia,Int.sub_zero,Int.toNat_zero,Int.toNat_sub,bij,bik,bjk,bji,bki,bkj];exact hq) ?_
 refine .seq ?_
 refine .pp zS [0,1,2,7,8,9] (by intro q hq;simp only[go_sem,zat,Nat.reduceSub,Int.reduceEq,Nat.reduceLT,Nat.reduceDiv,Nat.reduceAdd,Nat.reduceBEq,Nat.reduceLeDiff,reduceCtorEq,Nat.reduceEqDiff,Nat.reduceMod,Tryz.tm_36,Tryz.tm_3,hck,hw,hw2,ha,zia,Int.sub_zero,Int.toNat_zero,Int.toNat_sub,bij,bik,bjk,bji,bki,bkj,Int.toNat_sub,hm1,e1,e2,List.take_one,List.take_succ_cons];exact hq) ?_
 refine .seq ?_
 refine .drawn Tryz.tmOk Tryz.tmMixed [0,1,2,7,8,9] (by decide+kernel) (by intro q hq;simp only[go_sem,zat,Nat.reduceSub,Int.reduceEq,Nat.reduceLT,Nat.reduceDiv,Nat.reduceAdd,Nat.reduceBEq,Nat.reduceLeDiff,reduceCtorEq,Nat.reduceEqDiff,Nat.reduceMod,Tryz.tm_36,Tryz.tm_3,hck,hw,hw2,hw3,ha,zia,capS,bij,bik,bjk,bji,bki,bkj,Int.toNat_sub,hm1,hm2,e3,e4,e5];exact hq) (zh6 (by kernel_rfl)) (by first|rfl|simp only[go_sem,Nat.reduceLeDiff]<;>rfl|(simp;done)|(simp[oneD]<;>omega)|(simp_all;done)|(simp_all[oneD]<;>omega)) (by first|exact za4 _|exact lb rfl|(dsimp only;omega)|(simp<;>omega)) ?_
 refine .seq (.plx zS (ai Tryz.tm_36 (ai Tryz.tm_3 hck)) [9] ?_)
 refine .ret ⟨.inr rfl,retH [j,k] ?_ ?_⟩
 simp only[zmq,resL,resD,resT,go_sem,zat,Nat.reduceSub,Int.reduceEq,Nat.reduceLT,Nat.reduceDiv,Nat.reduceAdd,Nat.reduceBEq,Nat.reduceLeDiff,reduceCtorEq,Nat.reduceEqDiff,Nat.reduceMod,Tryz.f101]
 simp only[zf5,getL,effL,put,del,Nat.beq_refl,cond_true,cond_false,bij,bik,bjk,bji,bki,bkj,pq,List.append_assoc,List.singleton_append,zag]
theorem ya7n(i j k:Nat)(hij:i≠j)(L:List D)(x:D)(P Q:Bool)(at' c:Nat)(hck:capK c=true)(hat:at'<L.length)(hL:L.length<1000000)(h1:L.length+1<=c):
  zbv Tryz.prog 101 [.ref i 3 0 L.length (some c),.int .i64 (at':Int),.ref j 3 0 1 (some 1)] [(i,.arr 93 3 P L),(j,.arr 93 3 Q [x])] (.ref i 3 0 (L.length+1) (some c)) [(i,some (.arr 93 3 (P&&Q) (L.take at'++x::L.drop at')))] (k,k):=by
 have bij:Nat.beq i j=false:=zbq hij
 have bji:Nat.beq j i=false:=zbq (Ne.symm hij)
 have hw:wr .i64 ((L.length:Int)+((1:Nat):Int))=((L.length+1:Nat):Int):=zj6 _ _ (by show(-9223372036854775808:Int)<=_;omega) (by show _<=(9223372036854775807:Int);omega)
 have hw3:wr .i64 ((at':Int)+((1:Nat):Int))=((at'+1:Nat):Int):=zj6 _ _ (by show(-9223372036854775808:Int)<=_;omega) (by show _<=(9223372036854775807:Int);omega)
 have hm1:Nat.min 1 (L.length+1-at')=1:=by show min 1 (L.length+1-at')=1;omega
 have hm2:Nat.min (L.length+1-at') (L.length+1-(at'+1))=L.length-at':=by show min (L.length+1-at') (L.length+1-(at'+1))=L.length-at';omega
 have hn1:L.length+1-(at'+1)=(L.length-at'-1)+1:=by omega
 have tk:(L.take at').length=at':=by simp;omega
 have tk1:(L.take (at'+1)).length=at'+1:=by simp;omega
 have e5:List.take (L.length-at') (List.drop at' L)=List.drop at' L:=List.take_of_length_le (by simp)
 have e4:List.drop (at'+1+(L.length-at')) L=[]:=List.drop_eq_nil_of_le (by omega)
 have e1:List.take at' (List.take (at'+1) L++List.drop at' L)=List.take at' L:=by
  rw[List.take_append_of_le_length (by omega),List.take_take]
  congr 1;omega
 have e2:List.drop (at'+1) (List.take (at'+1) L++List.drop at' L)=List.drop at' L:=by
  rw[List.drop_append,List.drop_eq_nil_of_le (by omega),tk1,Nat.sub_self,List.drop_zero,zas]
 refine zeh Tryz.tmOk Tryz.func101 rfl (by decide) (lb rfl) (by simp) ?_
 intro hwf
 refine .seq (.plx zS hck [0,1,2] ?_)
 refine .seq (.plx zS (ai Tryz.tm_36 (ai Tryz.tm_3 hck)) [0,1,2] ?_)
 refine .seq (.plx zS (ai Tryz.tm_36 (ai Tryz.tm_3 hck)) [0,1,2] ?_)
 refine .seq (.seq (.plx zS (ai Tryz.tm_36 (ai Tryz.tm_3 hck)) [0,1,2,7] ?_))
 refine .cond rfl rfl (fun hc=>by simp at hc) (fun hc=>?_)
 refine .skip (.seq (.plx zS (ai Tryz.tm_36 (ai Tryz.tm_3 hck)) [0,1,2,7] ?_))
 refine .seq (.seq (.plx zS (ai Tryz.tm_36 (ai Tryz.tm_3 hck)) [0,1,2,7,8] ?_))
 refine .cond rfl rfl (fun hc=>by simp at hc;omega) (fun hc=>?_)
 refine .skip (.seq (.seq (.plx zS (ai Tryz.tm_36 (ai Tryz.tm_3 (ai hck hw))) [0,1,2,7,8] ?_)))
 refine .cond rfl rfl (fun hc=>by simp at hc;omega) (fun hc=>?_)
 refine .skip (.seq ?_)
 refine .pp zS [0,1,2,7,8] (by intro q hq;simp only[go_sem,zat,Nat.reduceSub,Int.reduceEq,Nat.reduceLT,Nat.reduceDiv,Nat.reduceAdd,Nat.reduceBEq,Nat.reduceLeDiff,reduceCtorEq,Nat.reduceEqDiff,Nat.reduceMod,Tryz.tm_36,Tryz.tm_3,hck,hw,zu8,Option.isSome,Int.sub_zero,Int.toNat_zero,Nat.sub_zero,bij,bji];exact hq) ?_
 refine .seq (.seq ?_)
 refine .reg Tryz.tmOk Tryz.tmMixed [0,1,2,7] (by decide+kernel) ?_
 refine .R (dr:=false) (.inr fun _ _ _ h=>⟨nofun,h.2⟩) (by intro q hq;simp only[go_sem,zat,Nat.reduceSub,Int.reduceEq,Nat.reduceLT,Nat.reduceDiv,Nat.reduceAdd,Nat.reduceBEq,Nat.reduceLeDiff,reduceCtorEq,Nat.reduceEqDiff,Nat.reduceMod,Tryz.tm_36,Tryz.tm_3,hck,hw3,Int.toNat_sub,bij,bji];exact hq) (by first|rfl|simp only[go_sem,Nat.reduceLeDiff]<;>rfl|(simp;done)|(simp[oneD]<;>omega)|(simp_all;done)|(simp_all[oneD]<;>omega)) (by first|exact za4 _|exact lb rfl|(dsimp only;omega)|(simp<;>omega)) ?_
 refine .overs (i:=j) (j:=i) rfl rfl rfl rfl rfl ya5n ⟨3,0,0,some 1,3-1,at'+1,L.length-at'-1,some (c-(at'+1)),93,3,Q,[x],93,3,P,L,by
  show [D.ref j 3 0 1 (some 1),D.ref i 3 (at'+1) (L.length+1-(at'+1)) (some (c-(at'+1)))]=_
  rw[hn1],by simp only[getL,bij,cond_false,Nat.beq_refl,cond_true],by simp only[getL,Nat.beq_refl,cond_true],Ne.symm hij⟩ ?_
 refine .R (dr:=false) (.inr fun _ _ _ h=>⟨nofun,h.2⟩) (by intro q hq;simp only[go_sem,zat,Nat.reduceSub,Int.reduceEq,Nat.reduceLT,Nat.reduceDiv,Nat.reduceAdd,Nat.reduceBEq,Nat.reduceLeDiff,reduceCtorEq,Nat.reduceEqDiff,Nat.reduceMod,Tryz.tm_36,Tryz.tm_3,hck];exact hq) (by first|rfl|simp only[go_sem,Nat.reduceLeDiff]<;>rfl|(simp;done)|(simp[oneD]<;>omega)|(simp_all;done)|(simp_all[oneD]<;>omega)) (by first|exact za4 _|exact lb rfl|(dsimp only;omega)|(simp<;>omega)) ?_
 refine .nn ?_
 refine .cond rfl rfl (fun hc=>?_) (fun hc=>by cases hc)
 refine .seq ?_
 refine .drawn Tryz.tmOk Tryz.tmMixed [0,1,2,7] (by decide+kernel) (by intro q hq;simp only[go_sem,zat,Nat.reduceSub,Int.reduceEq,Nat.reduceLT,Nat.reduceDiv,Nat.reduceAdd,Nat.reduceBEq,Nat.reduceLeDiff,reduceCtorEq,Nat.reduceEqDiff,Nat.reduceMod,Tryz.tm_36,Tryz.tm_3,hck,hw3,Int.toNat_sub,hm2,e4,e5,bij,bji,Bool.and_self,zag];exact hq) (zh6 (by kernel_rfl)) (by first|rfl|simp only[go_sem,Nat.reduceLeDiff]<;>rfl|(simp;done)|(simp[oneD]<;>omega)|(simp_all;done)|(simp_all[oneD]<;>omega)) (by first|exact za4 _|exact lb rfl|(dsimp only;omega)|(simp<;>omega)) ?_
 refine .seq ?_
 refine .pp zS [0,1,2] (by intro q hq;simp only[go_sem,zat,Nat.reduceSub,Int.reduceEq,Nat.reduceLT,Nat.reduceDiv,Nat.reduceAdd,Nat.reduceBEq,Nat.reduceLeDiff,reduceCtorEq,Nat.reduceEqDiff,Nat.reduceMod,Tryz.tm_36,Tryz.tm_3,hck,Int.toNat_sub,hm1,e1,e2,bij,bji,List.take_succ_cons];exact hq) ?_
 refine .seq (.plx zS (ai Tryz.tm_36 (ai Tryz.tm_3 hck)) [0] ?_)
 refine .ret ⟨.inr rfl,retH [i,j] ?_ ?_⟩
 simp only[zmq,resL,resD,resT,go_sem,zat,Nat.reduceSub,Int.reduceEq,Nat.reduceLT,Nat.reduceDiv,Nat.reduceAdd,Nat.reduceBEq,Nat.reduceLeDiff,reduceCtorEq,Nat.reduceEqDiff,Nat.reduceMod,Tryz.f101]
 simp only[zf5,getL,effL,put,del,Nat.beq_refl,cond_true,cond_false,bij,bji,List.append_assoc,List.singleton_append,zag]
theorem yaaa(i j k:Nat)(hij:i≠j)(hik:i≠k)(hjk:j≠k)(L:List D)(x:D)(P Q:Bool)(at':Nat)(hat:at'<=L.length)(hL:L.length<1000000):
  zbv Tryz.prog 101 [.ref i 3 0 L.length (some uC),.int .i64 (at':Int),.ref j 3 0 1 (some 1)] [(i,.arr 93 3 P L),(j,.arr 93 3 Q [x])] (.ref k 3 0 (L.length+1) (some uC)) [(k,some (.arr 93 3 (P&&Q) (L.take at'++x::L.drop at'))),(i,none)] (k,k+1):=by
 by_cases h:at'=L.length
 subst h
 have:=ya44 i j k hij hik hjk L x P Q hL
 rw[List.take_length,List.drop_length]
 exact this
 exact zo2 (l:=L) (p:=P) (ya44 i j k hij hik hjk L x P Q hL).1 (by simp only[getL,Nat.beq_refl,cond_true]) hik (by omega)
  (fun c hc _ h2=>ya7n i j k hij L x P Q at' c hc (by omega) hL h2)
  (fun c hc h1 h2=>ya7o i j k hij hik hjk L x P Q at' c hc (by omega) hL h1 h2)
end Go.Proofs
