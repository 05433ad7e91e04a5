/- Texts of the proof. -/
import Derived.WideShapes
import Derived.Test.YtbedjbhndfbpcaaGreatSeatOnePa
set_option linter.unusedVariables false
set_option linter.unusedSimpArgs false
namespace Go.Tm
open Go.RowKit Go.WideShapes
theorem ya37{C:Cx}(v:Value)(h:ya55 v=true):rep C (zu9 v) v:=by
 unfold zu9
 split
 simp only[rep]
 simp[ya55] at h;simp only[rep];exact⟨trivial,h.1,h.2⟩
 simp only[ya55,decide_eq_true_eq] at h;simp only[rep];exact⟨trivial,h⟩
 simp only[rep];exact⟨none,0,rfl,by simp⟩
 simp only[rep]
 simp only[rep]
 simp only[rep]
 simp only[rep]
 simp only[rep]
def zd0:Operand->Bool
 |.const v=>ya55 v
 | _=>true
theorem ya01{C:Cx}{a:Act}{rd:Nat->D}(h:∀t,rep C (rd t) (a.eval (.tmp t)))(x:Operand)(hx:zd0 x=true):rep C (ev rd x) (a.eval x):=by
 cases x with
 |tmp t=>exact h t
 |const v=>exact ya37 v hx
 |global g=>simp only[ev,rep]
 |func f=>simp only[ev,rep,Act.eval,reps];exact⟨[],rfl,rfl⟩
theorem zkk{C:Cx}{a:Act}{rd:Nat->D}{g:Bool}{x:Operand}{d:D}{p:Bool}(h:∀t,rep C (rd t) (a.eval (.tmp t)))(hx:zd0 x=true)
  (ho:opd g rd x=(d,p)) (hp:p=true) (hg:g=true):rep C d (a.eval x):=by
 have h1:=ya01 h x hx
 unfold opd at ho
 split at ho
 rename_i c d' he
 cases ho
 rw[he] at h1
 simp only[rep] at h1
 subst hg
 exact h1.1 (by simpa using hp)
 cases ho;exact h1
def opOk(o:Op):Bool:=o.operands.toList.all zd0
def zg2(P:Program)(C:Cx)(a:Act)(o:Oper)(d:D)(w:World):Prop:=∃v,(execOp a.eval o).run P w=.ok (.value v) w/\rep C d v
section
variable {P : Program} {C : Cx} {a : Act} {w : World} {rd : Nat -> D} (hr : ∀ t, rep C (rd t) (a.eval (.tmp t)))
include hr
theorem ya6b{o:Oper}{x:Operand}{d:D}{p:Bool}(ho:o.op=.move x\/o.op=.assign x)(hx:zd0 x=true)(h:opd true rd x=(d,p))(hp:p=true):
  zg2 P C a o d w:=by
 refine⟨a.eval x,?_,zkk hr hx h hp rfl⟩
 rcases ho with ho|ho<;>(unfold execOp;simp only[ho];rfl)
theorem ya9s{o:Oper}{c x y:Operand}{b0:Bool}{p pa pb:Bool}{da db d:D}(ho:o.op=.pick c x y)(hc:zd0 c=true)(hx:zd0 x=true)(hy:zd0 y=true)
  (h:opd true rd c=(.bool b0,p)) (hp:p=true) (ha:opd b0 rd x=(da,pa)) (hpa:pa=true) (hb:opd (!b0) rd y=(db,pb)) (hpb:pb=true) (hd:zua b0 da db=some d):
  zg2 P C a o d w:=by
 have h1:=zkk hr hc h hp rfl
 simp only[rep] at h1
 refine⟨if b0 then a.eval x else a.eval y,?_,?_⟩
 unfold execOp;simp[ho,h1,asBool]
 cases b0
 have:=zkk hr hy hb hpb rfl
 unfold zua at hd
 split at hd
 cases hd;simpa using this
 rename_i k n k' n';cases hk:decide (k=k')<;>simp[hk] at hd;subst hd;simp at hk;subst hk;simpa using this
 cases hd;simpa using this
 cases hd;simpa using this
 have:=zkk hr hx ha hpa rfl
 unfold zua at hd
 split at hd
 cases hd;simpa using this
 rename_i k n k' n';cases hk:decide (k=k')<;>simp[hk] at hd;subst hd;simpa using this
 cases hd;simpa using this
 cases hd;simpa using this
end
theorem zn1(k:IntKind)(n:Int):k.min<=k.wrap n/\k.wrap n<=k.max:=by
 cases k<;>simp[IntKind.wrap,IntKind.min,IntKind.max,IntKind.signed,IntKind.bits]<;>(try split)<;>omega
theorem ya6m(k:IntKind)(a b:Int)(ha:k.min<=a/\a<=k.max):k.min<=a.tmod b/\a.tmod b<=k.max:=by
 have h1:k.min<=0/\0<=k.max:=by cases k<;>simp[IntKind.min,IntKind.max,IntKind.signed,IntKind.bits]
 have h2:(a.tmod b).natAbs<=a.natAbs:=by rw[Int.natAbs_tmod];exact Nat.mod_le _ _
 rcases Int.le_total 0 a with h|h
 have:=Int.tmod_nonneg b h
 omega
 have h3:a.tmod b=-((-a).tmod b):=by rw[Int.neg_tmod];omega
 have:=Int.tmod_nonneg b (a:=-a) (by omega)
 omega
theorem ya2z{P:Program}{C:Cx}{w:World}{op:BinOp}{t:TypeId}{k:IntKind}{n m:Int}{d:D}{p:Bool}(h:zy2 op k n m=some (d,p))(hp:p=true)
  (hn:k.min<=n/\n<=k.max):∃v,(binOp op t (.int k n) (.int k m)).run P w=.ok v w/\rep C d v:=by
 unfold zy2 at h
 split at h<;>(try cases h)
 all_goals (simp only[go_sem,Sem.run_pure,Op.intArith,Op.intDiv])
 exact⟨_,rfl,by simp only[rep,wr];exact⟨trivial,zn1 _ _⟩⟩
 exact⟨_,rfl,by simp only[rep,wr];exact⟨trivial,zn1 _ _⟩⟩
 exact⟨_,rfl,by simp only[rep,wr];exact⟨trivial,zn1 _ _⟩⟩
 rw[if_neg (by simpa using hp)];exact⟨_,rfl,by simp only[rep,wr];exact⟨trivial,zn1 _ _⟩⟩
 rw[if_neg (by simpa using hp)];exact⟨_,rfl,by simp only[rep];exact⟨trivial,ya6m _ _ _ hn⟩⟩
 all_goals (refine⟨_,rfl,?_⟩;simp only[rep])
 all_goals (simp only[bitw,bits];exact⟨trivial,zn1 _ _⟩)
theorem ya7s(k:IntKind)(a:Int)(n:Nat)(ha:k.min<=a/\a<=k.max):k.min<=a.fdiv (2 ^ n)/\a.fdiv (2 ^ n)<=k.max:=by
 have h1:k.min<=0/\0<=k.max:=by cases k<;>simp[IntKind.min,IntKind.max,IntKind.signed,IntKind.bits]
 have hp:(1:Int)<=2 ^ n:=by
  have:=Nat.one_le_two_pow (n:=n)
  exact_mod_cast this
 rw[Int.fdiv_eq_ediv_of_nonneg _ (by omega)]
 rcases Int.le_total 0 a with h|h
 have h2:=Int.ediv_nonneg h (show(0:Int)<=2 ^ n by omega)
 have h3:=Int.ediv_le_self (2 ^ n) h
 omega
 have h2:a<=a/2 ^ n:=by
  rw[Int.le_ediv_iff_mul_le (by omega)]
  have:=Int.mul_le_mul_of_nonpos_left h hp
  omega
 have h3:a/2 ^ n<=0:=Int.ediv_nonpos_of_nonpos_of_neg h (by omega)
 omega
theorem zwv{P:Program}{C:Cx}{w:World}{t:TypeId}{k k':IntKind}{n m:Int}(l:Bool)(h:0<=m)(hn:k.min<=n/\n<=k.max):
  ∃v,(binOp (bif l then .shl else .shr) t (.int k n) (.int k' m)).run P w=.ok v w/\rep C (.int k (shw l k n m)) v:=by
 cases l
 refine⟨.int k (shw false k n m),?_,by simp only[rep];exact⟨trivial,by simp only[shw,cond_false];exact ya7s _ _ _ hn⟩⟩
 show(Op.shift .shr k n k' m).run P w=_
 simp only[Op.shift,if_neg (show ¬m<0 by omega),shw,cond_false]
 rfl
 refine⟨.int k (shw true k n m),?_,by simp only[rep];exact⟨trivial,by simp only[shw,cond_true];exact zn1 _ _⟩⟩
 show(Op.shift .shl k n k' m).run P w=_
 simp only[Op.shift,if_neg (show ¬m<0 by omega),shw,cond_true]
 rfl
theorem zu6(l:List UInt8):(⟨l.toArray⟩:ByteArray).toList=l:=by
 rw[ByteArray.toList_eq]
theorem ya1g{P:Program}{C:Cx}{w:World}{op:BinOp}{t:TypeId}{x y:List UInt8}{d:D}{p:Bool}(h:zp7 op x y=some (d,p))(hp:p=true):
  ∃v,(binOp op t (.string ⟨x.toArray⟩) (.string ⟨y.toArray⟩)).run P w=.ok v w/\rep C d v:=by
 have hb:binOp op t (.string ⟨x.toArray⟩) (.string ⟨y.toArray⟩)=Op.stringOp op ⟨x.toArray⟩ ⟨y.toArray⟩:=by
  cases op<;>simp[binOp]<;>simp[zp7] at h
 rw[hb]
 unfold zp7 at h
 split at h<;>(try cases h)
 all_goals (simp only[Op.stringOp,zu6])
 rw[if_neg (by simpa[ByteArray.size,IntKind.max_i64] using hp)]
 exact⟨_,rfl,by simp only[rep];refine⟨?_,by simpa using hp⟩;congr 1⟩
 all_goals exact⟨_,rfl,by simp only[rep]⟩
theorem zgg(op:BinOp)(t:TypeId)(x y:Operand)(u v:Value)(h:(∀l,u≠.agg l)/\u≠.nilIface):eqGuard op t x y u v=pure ():=by
 cases u<;>first|exact absurd rfl (h.1 _)|exact absurd rfl h.2|skip
 all_goals (cases op<;>rfl)
theorem zsb{P:Program}{w:World}{t:TypeId}(a b:Bool)(ht:P.underlying t=some .bool):(Op.equal t (.bool a) (.bool b)).run P w=.ok (a==b) w:=by
 have:∀d,(Op.equalIn (d+1) t (.bool a) (.bool b)).run P w=.ok (a==b) w:=fun d=>by
  simp[Op.equalIn,run_underlying ht]
 exact this 9999
theorem zkg{P:Program}{w:World}{t e:TypeId}(a:Option Addr)(n m n' m':Nat)(ht:P.underlying t=some (.slice e)):(Op.equal t (.slice a n m) (.slice none n' m')).run P w=.ok a.isNone w:=by
 have:∀d,(Op.equalIn (d+1) t (.slice a n m) (.slice none n' m')).run P w=.ok a.isNone w:=fun d=>by
  cases a<;>simp[Op.equalIn,run_underlying ht]
 exact this 9999
theorem zs9{P:Program}{w:World}{t:TypeId}{m}(ht:P.underlying t=some (.interface m)):(Op.equal t .nilIface .nilIface).run P w=.ok true w:=by
 have:∀d,(Op.equalIn (d+1) t .nilIface .nilIface).run P w=.ok true w:=fun d=>by
  simp[Op.equalIn,run_underlying ht]
 exact this 9999
theorem zsa{P:Program}{w:World}{t ty:TypeId}{v:Value}{m}(ht:P.underlying t=some (.interface m)):(Op.equal t (.iface ty v) .nilIface).run P w=.ok false w:=by
 have:∀d,(Op.equalIn (d+1) t (.iface ty v) .nilIface).run P w=.ok false w:=fun d=>by
  simp[Op.equalIn,run_underlying ht]
 exact this 9999
theorem yaas{P:Program}{C:Cx}{w:World}{o:Oper}{a:Act}{op:BinOp}{t ty:TypeId}{x y:Operand}{dx dy d:D}{p:Bool}(ho:o.op=.binOp op t x y ty)
  (h:bin op dx dy=some (d,p)) (hp:p=true\/∃id s off len oc,dx=.ref id s off len oc/\∀ad cap,a.eval x=.slice ad len cap->0<cap) (hu:rep C dx (a.eval x)) (hv:rep C dy (a.eval y))
  (ht:∀s l c s' c',dx=.imm s l c->dy=.imm s' [] c'->∃e,P.underlying t=some (.slice e)) (ht':∀id s off len oc,dx=.ref id s off len oc->∃e,P.underlying t=some (.slice e)) (hb:∀b,dx=.bool b->P.underlying t=some .bool)
  (hi:dx=.nilIface->cstO x y=true/\∃m,P.underlying t=some (.interface m)) (hi':∀ty' d',dx=.iface ty' d'->∃m,P.underlying t=some (.interface m)):
  zg2 P C a o d w:=by
 unfold zg2 execOp
 simp only[ho]
 generalize a.eval x=u at*
 generalize a.eval y=v at*
 unfold bin at h
 split at h
 rename_i k n k' m
 replace hp:p=true:=hp.resolve_right (by rintro⟨_,_,_,_,_,h,_⟩;cases h)
 simp only[rep] at hu hv
 obtain⟨rfl,hn⟩:=hu
 obtain⟨rfl,hm⟩:=hv
 split at h
 cases h
 obtain⟨v,hr,hrep⟩:=zwv (P:=P) (C:=C) (w:=w) (t:=t) (k':=k') true (of_decide_eq_true hp) hn
 refine⟨v,?_,hrep⟩
 rw[zgg _ _ _ _ _ _ ⟨by simp,by simp⟩]
 simp only[cond_true] at hr
 simp only[pure_bind,Sem.run_bind,hr,Result.andThen_ok,Sem.run_pure]
 cases h
 obtain⟨v,hr,hrep⟩:=zwv (P:=P) (C:=C) (w:=w) (t:=t) (k':=k') false (of_decide_eq_true hp) hn
 refine⟨v,?_,hrep⟩
 rw[zgg _ _ _ _ _ _ ⟨by simp,by simp⟩]
 simp only[cond_false] at hr
 simp only[pure_bind,Sem.run_bind,hr,Result.andThen_ok,Sem.run_pure]
 cases hk:decide (k=k')
 rw[hk] at h;cases h
 rw[hk] at h;simp at hk;subst hk
 obtain⟨v,hr,hrep⟩:=ya2z (P:=P) (C:=C) (w:=w) (t:=t) h hp hn
 refine⟨v,?_,hrep⟩
 rw[zgg _ _ _ _ _ _ ⟨by simp,by simp⟩]
 simp[hr]
 replace hp:p=true:=hp.resolve_right (by rintro⟨_,_,_,_,_,h,_⟩;cases h)
 simp only[rep] at hu hv
 obtain⟨rfl,hn⟩:=hu
 obtain⟨rfl,hm⟩:=hv
 obtain⟨v,hr,hrep⟩:=ya1g (P:=P) (C:=C) (w:=w) (t:=t) h hp
 refine⟨v,?_,hrep⟩
 rw[zgg _ _ _ _ _ _ ⟨by simp,by simp⟩]
 simp[hr]
 rename_i b b'
 simp only[rep] at hu hv
 subst hu hv
 have hbt:=hb b rfl
 split at h<;>(try cases h)
 refine⟨.bool (b==b'),?_,by simp only[rep]⟩
 rw[zgg _ _ _ _ _ _ ⟨by simp,by simp⟩]
 simp only[binOp,pure_bind,Sem.run_bind,Sem.run_pure,zsb _ _ hbt,Result.andThen_ok]
 refine⟨.bool (!(b==b')),?_,by simp only[rep]⟩
 rw[zgg _ _ _ _ _ _ ⟨by simp,by simp⟩]
 simp only[binOp,pure_bind,Sem.run_bind,Sem.run_pure,zsb _ _ hbt,Result.andThen_ok]
 rename_i s l c s'
 replace hp:p=true:=hp.resolve_right (by rintro⟨_,_,_,_,_,h,_⟩;cases h)
 simp only[rep] at hu hv
 obtain⟨a1,cap,rfl,h1,h2,h3,h4,h5,h6,h7⟩:=hu
 obtain⟨a2,cap',rfl,g1,g2,g3,g4,g5,g6,g7⟩:=hv
 obtain⟨e,he⟩:=ht s l c s' 0 rfl rfl
 have ha2:a2=none:=g3 trivial
 subst ha2
 have key:∀(hc:c%8<=2),(Op.equal t (.slice a1 l.length cap) (.slice none 0 cap')).run P w=.ok (c%8==0) w:=by
  intro hc
  cases a1 with
  |none=>
   have:c%8=0:=by
    rcases Nat.lt_or_ge (c%8) 1 with h|h
    omega
    exact absurd rfl (h4 (by omega))
   simp[zkg _ _ _ _ _ he,this]
  |some a0=>
   have:c%8≠0:=fun e=>by have:=h3 e;cases this
   simp[zkg _ _ _ _ _ he,this]
 have gd:eqGuard op t x y (.slice a1 l.length cap) (.slice none 0 cap')=pure ():=zgg _ _ _ _ _ _ ⟨by simp,by simp⟩
 simp only[zbo]
 split at h<;>(try cases h)
 refine⟨.bool (c%8==0),?_,by simp only[rep]⟩
 rw[gd]
 simp only[binOp,pure_bind,Sem.run_bind,Sem.run_pure,key (lb hp),Result.andThen_ok]
 refine⟨.bool (!(c%8==0)),?_,by simp only[rep]⟩
 rw[gd]
 simp only[binOp,pure_bind,Sem.run_bind,Sem.run_pure,key (lb hp),Result.andThen_ok]
 rename_i id s off len oc s'
 simp only[rep] at hu hv
 obtain⟨_,a1,cap,rfl,h1,h2,h3,h4,h5⟩:=hu
 obtain⟨a2,cap',rfl,g1,g2,g3,g4,g5,g6,g7⟩:=hv
 obtain⟨e,he⟩:=ht' id s off len oc rfl
 have ha2:a2=none:=g3 trivial
 subst ha2
 have hpos:∀{p:Bool},(p=true\/∃id' s' off' len' oc',D.ref id s off len oc=.ref id' s' off' len' oc'/\∀ad cap',Value.slice a1 len cap=.slice ad len' cap'->0<cap')->(p=true->0<len)->0<cap:=by
  rintro p (hp|⟨id',s',off',len',oc',e,hc⟩) hl
  have:=hl hp;omega
  cases e
  exact hc a1 cap rfl
 have key:0<cap->(Op.equal t (.slice a1 len cap) (.slice none 0 cap')).run P w=.ok false w:=by
  intro hc
  cases a1 with
  |none=>have:=h3 rfl;omega
  |some a0=>simp[zkg _ _ _ _ _ he]
 have gd:eqGuard op t x y (.slice a1 len cap) (.slice none 0 cap')=pure ():=zgg _ _ _ _ _ _ ⟨by simp,by simp⟩
 simp only[zbo]
 split at h<;>(try cases h)
 refine⟨.bool false,?_,by simp only[rep]⟩
 rw[gd]
 simp only[binOp,pure_bind,Sem.run_bind,Sem.run_pure,key (hpos hp lb),Result.andThen_ok]
 refine⟨.bool true,?_,by simp only[rep]⟩
 rw[gd]
 simp only[binOp,pure_bind,Sem.run_bind,Sem.run_pure,key (hpos hp lb),Result.andThen_ok,Bool.not_false]
 simp only[rep] at hu hv
 subst hu hv
 obtain⟨hc,m,hm⟩:=hi rfl
 have gd:∀op,eqGuard op t x y .nilIface .nilIface=pure ():=fun op=>by
  cases op<;>cases x<;>cases y<;>first|rfl|(simp[cstO] at hc)
 split at h<;>(try cases h)
 exact⟨.bool true,by rw[gd];simp only[binOp,pure_bind,Sem.run_bind,Sem.run_pure,zs9 hm,Result.andThen_ok],by simp only[rep]⟩
 exact⟨.bool false,by rw[gd];simp only[binOp,pure_bind,Sem.run_bind,Sem.run_pure,zs9 hm,Result.andThen_ok,Bool.not_true],by simp only[rep]⟩
 rename_i ty' d'
 simp only[rep] at hu hv
 obtain⟨u,rfl,_⟩:=hu
 subst hv
 obtain⟨m,hm⟩:=hi' _ _ rfl
 have gd:∀op,eqGuard op t x y (.iface ty' u) .nilIface=pure ():=fun op=>by cases op<;>rfl
 split at h<;>(try cases h)
 exact⟨.bool false,by rw[gd];simp only[binOp,pure_bind,Sem.run_bind,Sem.run_pure,zsa hm,Result.andThen_ok],by simp only[rep]⟩
 exact⟨.bool true,by rw[gd];simp only[binOp,pure_bind,Sem.run_bind,Sem.run_pure,zsa hm,Result.andThen_ok,Bool.not_false],by simp only[rep]⟩
 cases h
theorem yaao{P:Program}{C:Cx}{w:World}{o:Oper}{a:Act}{t:TypeId}{x:Operand}{b:Bool}(ho:o.op=.unOp .not t x)(hu:rep C (.bool b) (a.eval x)):
  zg2 P C a o (.bool !b) w:=by
 simp only[rep] at hu
 exact⟨.bool !b,by unfold execOp;simp[ho,hu,Op.unary],by simp only[rep]⟩
theorem yaap{P:Program}{C:Cx}{w:World}{o:Oper}{a:Act}{t:TypeId}{x:Operand}{k:IntKind}{n:Int}(ho:o.op=.unOp .neg t x)(hu:rep C (.int k n) (a.eval x)):
  zg2 P C a o (.int k (wr k (0-n))) w:=by
 simp only[rep] at hu
 obtain⟨hu,_⟩:=hu
 exact⟨.int k (k.wrap (0-n)),by unfold execOp;simp[ho,hu,Op.unary,Op.intArith],by simp only[rep,wr];exact⟨trivial,zn1 _ _⟩⟩
theorem zcp{P:Program}{t:TypeId}{ti:TI}(h:zd3 P t ti=true):∃i d,P.info? t=some i/\P.underlying t=some d/\i.size=ti.size/\(∃z,i.zero=some z/\zfp ti.zero z.cells.toList=true)/\
  (match d with
  |.struct fs=>ti.kind=2/\ti.offs=fs.toList.map (fun f=>(f.offset,P.cellsOf f.type,zoh P f.type))/\∀f∈fs.toList,(P.info? f.type).isSome=true/\(P.underlying f.type).isSome=true/\P.cellsOf f.type≠0
  |.slice e=>ti.kind=3/\(∃j,P.info? e=some j/\j.size=ti.esz/\j.bytes=ti.eby/\j.bytes≠0/\j.size≠0/\(∃z,j.zero=some z/\z.cells.size=j.size/\zfp ti.ezero z.cells.toList=true/\zpl z=ti.eagg))/\ti.el=e/\zoh P e=ti.eagg
  |.array n e=>ti.kind=4/\(∃j,P.info? e=some j/\j.size=1)/\ti.size=n/\ti.offs=(List.range n).map (fun i=>(i,1,false))
  |.string=>ti.kind=5
  |.int k=>ti.kind=6/\ti.ik=some k
  |.pointer _|.func _ _ _=>ti.kind=1
  |.bool=>ti.kind=8
  |.interface _=>ti.kind=7
  |.map k v=>ti.kind=9/\ti.el=k/\(∃j,P.info? v=some j/\j.size=ti.esz/\∃z,j.zero=some z/\zfp ti.ezero z.cells.toList=true/\zpl z=ti.eagg)/\zoh P v=ti.eagg
  | _=>False):=by
 unfold zd3 at h
 split at h
 ·rename_i i d hi hd
  simp only[za0,beq_iff_eq] at h
  obtain⟨⟨h1,h2⟩,h3⟩:=h
  refine⟨i,d,hi,hd,h1,?_,?_⟩
  split at h2
  rename_i z hz;exact⟨z,hz,h2⟩
  cases h2
  ·cases d<;>simp only[za0,beq_iff_eq,zb0] at h3 ⊢<;>try exact h3
   case slice e=>
    obtain⟨⟨⟨k1,k2⟩,k4⟩,k3⟩:=h3
    refine⟨k1,?_,k4,k3⟩
    split at k2
    rename_i j hj
    simp only[za0,beq_iff_eq,bne_iff_ne] at k2
    refine⟨j,hj,k2.1.1.1.1,k2.1.1.1.2,k2.1.1.2,k2.1.2,?_⟩
    have k5:=k2.2
    split at k5
    rename_i z hz
    simp only[za0,beq_iff_eq] at k5
    exact⟨z,hz,k5.1.1,k5.1.2,k5.2⟩
    cases k5
    cases k2
   case struct fs=>
    obtain⟨⟨k1,k2⟩,k3⟩:=h3
    refine⟨k1,k2,fun f hf=>?_⟩
    have:=List.all_eq_true.1 k3 f hf
    simp only[za0,bne_iff_ne] at this
    exact⟨this.1.1,this.1.2,this.2⟩
   case array n e=>
    obtain⟨⟨⟨k1,k2⟩,k3⟩,k4⟩:=h3
    refine⟨k1,?_,k3,k4⟩
    split at k2
    rename_i j hj;exact⟨j,hj,by simpa using k2⟩
    cases k2
   case map k v=>
    obtain⟨⟨⟨k1,k2⟩,k4⟩,k5⟩:=h3
    refine⟨k1,k2,?_,k5⟩
    split at k4
    rename_i j hj
    simp only[za0,beq_iff_eq] at k4
    refine⟨j,hj,k4.1,?_⟩
    have k5:=k4.2
    split at k5
    rename_i z hz
    simp only[za0,beq_iff_eq] at k5
    exact⟨z,hz,k5⟩
    cases k5
    cases k4
 cases h
theorem zs3{P:Program}{t:TypeId}{ti:TI}(h:zd3 P t ti=true)(hk:ti.kind=2):∃i fs,P.info? t=some i/\P.underlying t=some (.struct fs)/\i.size=ti.size/\
  ti.offs=fs.toList.map (fun f=>(f.offset,P.cellsOf f.type,zoh P f.type))/\∀f∈fs.toList,(P.info? f.type).isSome=true/\(P.underlying f.type).isSome=true/\P.cellsOf f.type≠0:=by
 obtain⟨i,d,hi,hd,hs,_,hm⟩:=zcp h
 cases d<;>simp only[hk] at hm<;>try (first|exact hm.elim|(exfalso;omega)|(exfalso;have:=hm.1;omega))
 exact⟨i,_,hi,hd,hs,hm.2.1,hm.2.2⟩
theorem zcs{P:Program}{t:TypeId}{ti:TI}(h:zd3 P t ti=true)(hk:ti.kind=3):∃e j,P.underlying t=some (.slice e)/\P.info? e=some j/\j.size=ti.esz/\j.bytes=ti.eby/\j.bytes≠0/\j.size≠0/\(∃z,j.zero=some z/\z.cells.size=j.size/\zfp ti.ezero z.cells.toList=true/\zpl z=ti.eagg)/\ti.el=e:=by
 obtain⟨i,d,hi,hd,hs,_,hm⟩:=zcp h
 cases d<;>simp only[hk] at hm<;>try (first|exact hm.elim|(exfalso;omega)|(exfalso;have:=hm.1;omega))
 obtain⟨_,⟨j,hj⟩,hel,_⟩:=hm
 exact⟨_,j,hd,hj.1,hj.2.1,hj.2.2.1,hj.2.2.2.1,hj.2.2.2.2.1,hj.2.2.2.2.2,hel⟩
theorem zjd{P:Program}{t:TypeId}{ti:TI}(h:zd3 P t ti=true)(hk:ti.kind=5):P.underlying t=some .string:=by
 obtain⟨i,d,hi,hd,hs,_,hm⟩:=zcp h
 cases d<;>simp only[hk] at hm<;>try (first|exact hm.elim|(exfalso;omega)|(exfalso;have:=hm.1;omega))
 exact hd
theorem ya6n{P:Program}{t:TypeId}{ti:TI}(h:zd3 P t ti=true)(hk:ti.kind=8):P.underlying t=some .bool:=by
 obtain⟨i,d,hi,hd,hs,_,hm⟩:=zcp h
 cases d<;>simp only[hk] at hm<;>try (first|exact hm.elim|(exfalso;omega)|(exfalso;have:=hm.1;omega))
 exact hd
theorem zzu{P:Program}{t:TypeId}{ti:TI}(h:zd3 P t ti=true)(hk:ti.kind=7):∃m,P.underlying t=some (.interface m):=by
 obtain⟨i,d,hi,hd,hs,_,hm⟩:=zcp h
 cases d<;>simp only[hk] at hm<;>try (first|exact hm.elim|(exfalso;omega)|(exfalso;have:=hm.1;omega))
 exact⟨_,hd⟩
theorem ya2o{P:Program}{t:TypeId}{ti:TI}{k:IntKind}(h:zd3 P t ti=true)(hk:ti.kind=6)(hi:ti.ik=some k):P.underlying t=some (.int k):=by
 obtain⟨i,d,_,hd,hs,_,hm⟩:=zcp h
 cases d<;>simp only[hk] at hm<;>try (first|exact hm.elim|(exfalso;omega)|(exfalso;have:=hm.1;omega))
 rw[hi] at hm
 cases hm.2
 exact hd
theorem zzv{P:Program}{t:TypeId}{ti:TI}(h:zd3 P t ti=true)(hk:ti.kind=4):∃n e j,P.underlying t=some (.array n e)/\P.info? e=some j/\j.size=1/\ti.size=n/\ti.offs=(List.range n).map (fun i=>(i,1,false)):=by
 obtain⟨i,d,hi,hd,hs,_,hm⟩:=zcp h
 cases d<;>simp only[hk] at hm<;>try (first|exact hm.elim|(exfalso;omega)|(exfalso;have:=hm.1;omega))
 obtain⟨_,⟨j,h1,h2⟩,h3,h4⟩:=hm
 exact⟨_,_,j,hd,h1,h2,h3,h4⟩
theorem ya2n{P:Program}{w:World}{t:TypeId}{ti:TI}(h:zd3 P t ti=true):(ti.kind≠4->(isAgg t).run P w=.ok (ti.kind==2) w)/\(sizeOf t).run P w=.ok ti.size w:=by
 obtain⟨i,d,hi,hd,hs,_,hm⟩:=zcp h
 constructor
 intro h4
 unfold Go.isAgg
 rw[Sem.run_bind,run_underlying hd]
 cases d<;>simp only at hm ⊢<;>first|exact hm.elim|exact absurd hm.1 h4|simp[hm]
 simp[sizeOf,typeInfo,hi,hs]
theorem zjc{C:Cx}:∀(l:List D) (k b o s:Nat),zcf C l b o s->zcf C (l.drop k) b (o+k*s) s
 |l,0,b,o,s,h=>by simpa using h
 |[],k+1,b,o,s,h=>by simp only[List.drop_nil,zcf]
 |d::ds,k+1,b,o,s,h=>by
  simp only[zcf] at h
  have:=zjc ds k b (o+s) s h.2
  rw[List.drop_succ_cons]
  rwa [show o+(k+1)*s=o+s+k*s by rw[Nat.succ_mul];omega]
theorem zxt{C:Cx}{l:List D}{i b o s:Nat}(h:zcf C l b o s)(hi:i<l.length):∃v,rep C (nth l i) v/\v.cells.size=s/\C.w.rangeAt b (o+i*s) v.cells.toList:=by
 have:=zjc l i b o s h
 rw[za7 hi] at this
 simp only[zcf] at this
 obtain⟨⟨v,h1,h2,_,h3⟩,_⟩:=this
 refine⟨v,?_,h2,h3⟩
 unfold nth
 simpa[List.getD,hi] using h1
theorem znk{C:Cx}:∀{l:List D} {vs:List Value} {b o:Nat},reps C l vs->C.w.rangeAt b o vs->cels C l b o
 |[],_,_,_,_,_=>by simp only[cels]
 |d::ds,vs,b,o,hr,h=>by
  simp only[reps] at hr
  obtain⟨v,vs',rfl,hd,hds⟩:=hr
  simp only[cels]
  refine⟨⟨v,hd,h 0 v rfl⟩,znk hds fun j u hj=>?_⟩
  have:=h (j+1) u (by simpa using hj)
  rwa [show o+1+j=o+(j+1) by omega]
theorem zto{C:Cx}{d:D}{v:Value}{b o:Nat}(hr:rep C d v)(h:C.w.rangeAt b o v.cells.toList)(hs:v.cells.size≠0):cels C d.cells b o:=by
 cases d with
 |agg l=>
  simp only[rep] at hr
  obtain⟨cs,rfl,hc⟩:=hr
  exact znk hc (by simpa[Value.cells] using h)
 |tuple l=>simp only[D.cells,cels]
 |«when» c d=>simp only[D.cells,cels]
 |undef=>simp only[D.cells,cels]
 | _=>
  have hv:v.cells=#[v]:=by
   simp only[rep] at hr
   first
    |(subst hr;rfl)
    |(obtain⟨cs,rfl,_⟩:=hr;exact znj _ _)
    |(obtain⟨rfl,_⟩:=hr;rfl)
    |(obtain⟨_,_,rfl,_⟩:=hr;rfl)
    |(obtain⟨_,_,_,rfl,_⟩:=hr;rfl)
    |(obtain⟨_,_,_,_,_,rfl⟩:=hr;rfl)
    |(obtain⟨_,_,_,_,rfl⟩:=hr;rfl)
    |(obtain⟨_,rfl,_⟩:=hr;rfl)
    |(cases v<;>first|rfl|cases hr)
  rw[hv] at h
  simp only[D.cells,cels]
  exact⟨⟨v,hr,h 0 v rfl⟩,trivial⟩
theorem zpu{C:Cx}:∀(l:List D) (k b o:Nat),cels C l b o->cels C (l.drop k) b (o+k)
 |l,0,b,o,h=>by simpa using h
 |[],k+1,b,o,h=>by simp only[List.drop_nil,cels]
 |d::ds,k+1,b,o,h=>by
  simp only[cels] at h
  have:=zpu ds k b (o+1) h.2
  rw[List.drop_succ_cons]
  rwa [show o+(k+1)=o+1+k by omega]
theorem zxy{C:Cx}:∀(n:Nat) (l:List D) (b o:Nat),cels C l b o->n<=l.length->∃vs:List Value,vs.length=n/\reps C (l.take n) vs/\C.w.rangeAt b o vs
 |0,l,b,o,_,_=>⟨[],rfl,by simp only[List.take_zero,reps],fun j v hj=>by simp at hj⟩
 |n+1,[],b,o,_,hn=>by simp at hn
 |n+1,d::ds,b,o,h,hn=>by
  simp only[cels] at h
  obtain⟨⟨v,h1,h3⟩,h4⟩:=h
  obtain⟨vs,hl,hr,hc⟩:=zxy n ds b (o+1) h4 (by simpa using hn)
  refine⟨v::vs,by simp[hl],by simp only[List.take_succ_cons,reps];exact⟨v,vs,rfl,h1,hr⟩,?_⟩
  intro j u hj
  cases j with
  |zero=>simp at hj;subst hj;exact h3
  |succ j=>
   have:=hc j u (by simpa using hj)
   rwa [show o+(j+1)=o+1+j by omega]
theorem zm8{P:Program}{C:Cx}{t:TypeId}{ti:TI}{l:List D}{b o:Nat}{d:D}(ht:zd3 P t ti=true)(h4:ti.kind≠4)(hp:part (ti.kind==2) ti.size l=some d)
  (hn:ti.size<=l.length) (h:cels C l b o):∃v,(loadVar t ⟨b,o,none⟩).run P C.w=.ok v C.w/\rep C d v:=by
 obtain⟨hag,hsz⟩:=ya2n (w:=C.w) ht
 have hag:=hag h4
 unfold part at hp
 cases hk:(ti.kind==2)
 rw[hk] at hp hag
 cases l with
 |nil=>simp at hp
 |cons d' ds=>
  simp at hp
  subst hp
  simp only[cels] at h
  obtain⟨⟨v,h1,h2⟩,_⟩:=h
  exact⟨v,by simp[loadVar,hag,h2],h1⟩
 rw[hk] at hp hag
 simp at hp
 subst hp
 obtain⟨vs,hl,hr,hc⟩:=zxy ti.size l b o h hn
 refine⟨.agg vs.toArray,?_,by simp only[rep];exact⟨vs,rfl,hr⟩⟩
 have:=run_loadCells_list (P:=P) C.w ⟨b,o,none⟩ vs (fun j v hv=>by rw[Addr.add_mid];exact hc j v hv)
 rw[hl] at this
 simp[loadVar,hag,hsz,this]
theorem ya72(C:Cx)(b:Bool)(h:C.rf=true):Cx.Le {C with rf:=b} C:=⟨fun _ _ Z' h=>⟨Z',h,fun _ h1 h2 h3=>⟨h1,h2,.refl h3⟩⟩,fun _ _=>rfl,id,fun _=>h,fun _ _ _=>rfl⟩
theorem yab4{C:Cx}:(C.at C.Z).Le C:=by
 refine⟨fun m hm Z' h=>?_,fun _ _=>rfl,(fun x=>by cases x),(fun x=>by cases x),(fun x=>by cases x)⟩
 rcases hm with rfl|hm
 exact⟨Z',h,fun _ h1 h2 h3=>⟨h1,h2,.refl h3⟩⟩
 cases hm
mutual
theorem zvl{C:Cx}{m:Nat}{Z:Nat->Prop}(hm:0<m)(hz:C.zn m=some Z)(hf:C.fl=true):∀(d:D) (v:Value),rep (C.at Z) d v->rep C (mkM m d) v
 |.bool b,v,h=>by simpa only[rep,mkM] using h
 |.int k n,v,h=>by simpa only[rep,mkM] using h
 |.str l,v,h=>by simpa only[rep,mkM] using h
 |.agg l,v,h=>by
  simp only[rep,mkM] at h ⊢
  obtain⟨cs,rfl,h⟩:=h
  exact⟨cs,rfl,zrp hm hz hf l cs h⟩
 |.imm s l c,v,h=>by
  simp only[rep,mkM] at h ⊢
  obtain⟨a,cap,rfl,h1,h2,h3,h4,h5,h6,hfl,h7⟩:=h
  have e1:(c%8+8*m)%8=c%8:=by omega
  have e2:(c%8+8*m)/8=m:=by omega
  have e3:c/8=0:=by
   rcases Nat.eq_zero_or_pos (c/8) with e|e
   exact e
   cases hfl e
  rw[e1,e2]
  refine⟨a,cap,rfl,h1,h2,h3,h4,h5,h6,fun _=>hf,?_⟩
  rcases h7 with h7|h7
  exact .inl h7
  right
  intro Z' hZ'
  have:Z'=Z:=by
   have:¬m=0:=by omega
   simp only[Cx.zone,this,if_false,hz,za5] at hZ'
   exact hZ'.symm
  subst this
  exact h7 Z' (by rw[e3];simp[Cx.zone,Cx.at])
 |.ref id s off len oc,v,h=>by simp only[rep] at h;cases h.1
 |.ptr id off,v,h=>by simp only[rep] at h;cases h.1
 |.eptr id s i off,v,h=>by simp only[rep] at h;cases h.1
 |.iptr m' l,v,h=>by
  simp only[rep,mkM] at h ⊢
  obtain⟨a0,rfl,hs,hfl,h7⟩:=h
  have e3:m'=0:=by
   rcases Nat.eq_zero_or_pos m' with e|e
   exact e
   cases hfl e
  subst e3
  refine⟨a0,rfl,hs,fun _=>hf,?_⟩
  rcases h7 with h7|h7
  exact .inl h7
  right
  intro Z' hZ'
  have:Z'=Z:=by
   have:¬m=0:=by omega
   simp only[Cx.zone,this,if_false,hz,za5] at hZ'
   exact hZ'.symm
  subst this
  exact h7 Z' (by simp[Cx.zone,Cx.at])
 |.nilptr,v,h=>by simpa only[rep,mkM] using h
 |.tuple l,v,h=>by
  simp only[rep,mkM] at h ⊢
  obtain⟨cs,rfl,h⟩:=h
  exact⟨cs,rfl,zrp hm hz hf l cs h⟩
 |.fn f l,v,h=>by
  simp only[rep,mkM] at h ⊢
  obtain⟨cs,rfl,h⟩:=h
  exact⟨cs,rfl,zrp hm hz hf l cs h⟩
 |.nilfn,v,h=>by simpa only[rep,mkM] using h
 |.iface t d,v,h=>by
  simp only[rep,mkM] at h ⊢
  obtain⟨x,rfl,h⟩:=h
  exact⟨x,rfl,zvl hm hz hf d x h⟩
 |.nilIface,v,h=>by simpa only[rep,mkM] using h
 |.mref id,v,h=>by simp only[rep] at h;cases h.1
 |.nilmap,v,h=>by simpa only[rep,mkM] using h
 |.sc,v,h=>by simpa only[rep,mkM] using h
 |.when c d,v,h=>by
  simp only[rep,mkM] at h ⊢
  exact⟨fun hc=>zvl hm hz hf d v (h.1 hc),h.2⟩
 |.undef,v,_=>by simp only[rep,mkM]
theorem zrp{C:Cx}{m:Nat}{Z:Nat->Prop}(hm:0<m)(hz:C.zn m=some Z)(hf:C.fl=true):∀(l:List D) (vs:List Value),reps (C.at Z) l vs->reps C (mkML m l) vs
 |[],vs,h=>by simpa only[reps,mkML] using h
 |d::ds,vs,h=>by
  simp only[reps,mkML] at h ⊢
  obtain⟨v,vs',rfl,h1,h2⟩:=h
  exact⟨v,vs',rfl,zvl hm hz hf d v h1,zrp hm hz hf ds vs' h2⟩
end
theorem ya38{C:Cx}{m:Nat}{Z:Nat->Prop}(hz:C.zone m=some Z)(hf:C.fl=true){d:D}{v:Value}(h:rep (C.at Z) d v):rep C (mkZ m d) v:=by
 cases m with
 |zero=>
  simp only[Cx.zone,if_true,za5] at hz
  subst hz
  exact zfv yab4 _ _ h
 |succ m=>
  simp only[Cx.zone,Nat.succ_ne_zero,if_false] at hz
  exact zvl (Nat.succ_pos m) hz hf d v h
theorem ya40{C:Cx}{m:Nat}{l:List D}{v:Value}{Z:Nat->Prop}(hz:C.zone m=some Z)(h:rep C (.iptr m l) v):∃a0,v=.pointer (some a0)/\a0.spot=none/\cels (C.at Z) l a0.block a0.off:=by
 simp only[rep] at h
 obtain⟨a0,rfl,hs,_,h⟩:=h
 refine⟨a0,rfl,hs,?_⟩
 rcases h with rfl|h
 simp only[cels]
 exact(h Z hz).2.2.2
theorem Mem.live{fr w g hp nu}(h:Mem fr w g hp nu){m:Nat}(hm:m<3):∃Z,(cx w g hp).zone m=some Z:=by
 obtain⟨Z1,h1,_⟩:=h.zs.z1
 obtain⟨Z2,h2,_⟩:=h.zs.z2
 rcases m with _| _| _|m
 exact⟨_,rfl⟩
 exact⟨Z1,h1⟩
 exact⟨Z2,h2⟩
 omega
section
variable {P : Program} {E : En} {n : Nat} {F : FrS} {a : Act} {w : World} {g : Gh} (hR : Rel E n F a w g)
include hR
theorem ya6c{o:Oper}{t:TypeId}{ti:TI}{x:Operand}{dx d:D}{q:Bool}(ho:o.op=.load t x)(ht:zd3 P t ti=true)(h4:ti.kind≠4)
  (hx:rep (cx w g F.hp) dx (a.eval x)) (h:zql F.hp (ti.kind==2) ti.size dx=some (d,q)) (hq:q=true):zg2 P (cx w g F.hp) a o d w:=by
 have fin:∀ad:Addr,a.eval x=.pointer (some ad)->(∃v,(loadVar t ad).run P w=.ok v w/\rep (cx w g F.hp) d v)->zg2 P (cx w g F.hp) a o d w:=by
  rintro ad he ⟨v,hr,hrep⟩
  exact⟨v,by unfold execOp;simp[ho,he,Instr.loadAt,Instr.sureAddr,hr],hrep⟩
 unfold zql at h
 split at h
 ·split at h
  ·rename_i m l d' hp
   cases h
   simp only[za0] at hq
   obtain⟨Z,hz⟩:=hR.mem.live (lb hq.2)
   obtain⟨a0,he,hs,hc⟩:=ya40 hz hx
   obtain⟨v,h1,h2⟩:=zm8 (P:=P) ht h4 hp (lb hq.1) hc
   refine fin a0 he ⟨v,?_,ya38 hz rfl h2⟩
   have:a0=⟨a0.block,a0.off,none⟩:=by cases a0;simp_all
   rw[this];exact h1
  cases h
 rename_i id off
 split at h
 rename_i cs hb
 split at h
 rename_i d' hp
 cases h
 simp only[rep] at hx
 obtain⟨_,b,o',hσ,he⟩:=hx
 obtain⟨b',cv,T,hσ',hblk,hreps,_⟩:=hR.mem.hd id _ hb
 have e:=hσ'.symm.trans hσ
 simp only[za5,zaa] at e
 obtain⟨rfl,rfl⟩:=e
 have hq:=lb hq
 have hc:cels (cx w g F.hp) cs b' 0:=znk hreps fun j v hj=>by
  simp only[cx] at hblk ⊢
  simp only[World.cell?,hblk,Nat.zero_add]
  simpa using hj
 have hc2:=zpu cs off b' 0 hc
 obtain⟨v,h1,h2⟩:=zm8 (P:=P) ht h4 hp (by simp;omega) hc2
 exact fin _ he ⟨v,h1,h2⟩
 cases h
 cases h
 rename_i id s i off
 split at h
 rename_i s' pu items hb
 split at h
 rename_i d' hp
 cases h
 simp only[za0] at hq
 obtain⟨⟨q1,hi⟩,hn⟩:=hq
 obtain rfl:=nb q1
 have hi:i<items.length:=lb hi
 have hn:=lb hn
 simp only[rep] at hx
 obtain⟨_,hs0,b,o',hσ,he⟩:=hx
 rcases hR.mem.hd id _ hb with⟨rfl,_⟩|⟨b',cv,hσ',hblk,hsz,hel⟩
 simp at hi
 have e:=hσ'.symm.trans hσ
 simp only[za5,zaa] at e
 obtain⟨rfl,rfl⟩:=e
 obtain⟨v,hv,hs,hr⟩:=zxt hel hi
 have hc:=zto hv hr (by omega)
 have hc2:=zpu _ off b' _ hc
 obtain⟨v,h1,h2⟩:=zm8 (P:=P) ht h4 hp (by simp;omega) hc2
 exact fin _ he ⟨v,h1,zfv (ya72 (cx w g F.hp) _ rfl) _ _ h2⟩
 cases h
 cases h
 cases h
omit hR in
theorem zqe{o:Oper}{x:Operand}{dx:D}(ho:o.op=.nilCheck x)(hx:rep (cx w g F.hp) dx (a.eval x))(hd:(∃id off,dx=.ptr id off)\/(∃id s i off,dx=.eptr id s i off)\/∃m l,dx=.iptr m l):
  zg2 P (cx w g F.hp) a o dx w:=by
 have hp:∃ad,a.eval x=.pointer (some ad):=by
  rcases hd with⟨id,off,rfl⟩|⟨id,s,i,off,rfl⟩|⟨m,l,rfl⟩
  simp only[rep] at hx;obtain⟨_,_,_,_,h⟩:=hx;exact⟨_,h⟩
  simp only[rep] at hx;obtain⟨_,_,_,_,_,h⟩:=hx;exact⟨_,h⟩
  simp only[rep] at hx;obtain⟨_,h,_⟩:=hx;exact⟨_,h⟩
 obtain⟨ad,he⟩:=hp
 exact⟨a.eval x,by unfold execOp;simp[ho,he],hx⟩
omit hR in
theorem zoo{t:TypeId}{ti:TI}{f off sz:Nat}{ag:Bool}{ad:Addr}(ht:zd3 P t ti=true)(hk:ti.kind=2)(hf:ti.offs[f]?=some (off,sz,ag))(hs:ad.spot=none):
  (Instr.fieldAt t (.pointer (some ad)) f).run P w=.ok (.pointer (some ⟨ad.block,ad.off+off,none⟩)) w:=by
 obtain⟨i,fs,hi,hu,hsz,hoffs,hall⟩:=zs3 ht hk
 rw[hoffs] at hf
 simp only[List.getElem?_map,Option.map_eq_some_iff,zaa] at hf
 obtain⟨fd,hfd,rfl,rfl,rfl⟩:=hf
 have hmem:fd∈fs.toList:=List.mem_of_getElem? hfd
 obtain⟨h1,h2,h3⟩:=hall fd hmem
 have hfd':fs[f]?=some fd:=by simpa using hfd
 obtain⟨j,hj⟩:=Option.isSome_iff_exists.1 h1
 have hn0:j.size≠0:=by simpa[Program.cellsOf,hj] using h3
 have:ad.add fd.offset=⟨ad.block,ad.off+fd.offset,none⟩:=by
  unfold Addr.add;split
  ·cases ad;simp_all
  rfl
 simp[Instr.fieldAt,run_underlying hu,hfd',Instr.sureAddr,fieldPlace,sizeOf,typeInfo,hj,hn0,this]
omit hR in
theorem zoq{o:Oper}{t:TypeId}{ti:TI}{x:Operand}{f off sz:Nat}{ag:Bool}{dx d:D}(ho:o.op=.fieldAddr t x f)(ht:zd3 P t ti=true)(hk:ti.kind=2)
  (hf:ti.offs[f]?=some (off,sz,ag)) (hx:rep (cx w g F.hp) dx (a.eval x))
  (hd:(∃id o',dx=.ptr id o'/\d=.ptr id (o'+off))\/(∃id s i o',dx=.eptr id s i o'/\d=.eptr id s i (o'+off))\/(∃m l,dx=.iptr m l/\d=.iptr m (l.drop off)/\off<=l.length)):
  zg2 P (cx w g F.hp) a o d w:=by
 rcases hd with⟨id,o',rfl,rfl⟩|⟨id,s,i,o',rfl,rfl⟩|⟨m,l,rfl,rfl,hl⟩
 simp only[rep] at hx
 obtain⟨h0,b,ob,hσ,he⟩:=hx
 refine⟨_,by unfold execOp;simp[ho,he,zoo ht hk hf];rfl,?_⟩
 simp only[rep]
 exact⟨h0,b,ob,hσ,by simp[Nat.add_assoc]⟩
 simp only[rep] at hx
 obtain⟨h0,hs0,b,ob,hσ,he⟩:=hx
 refine⟨_,by unfold execOp;simp[ho,he,zoo ht hk hf];rfl,?_⟩
 simp only[rep]
 exact⟨h0,hs0,b,ob,hσ,by simp[Nat.add_assoc]⟩
 simp only[rep] at hx ⊢
 obtain⟨a0,he,hs,hfl,h⟩:=hx
 refine⟨_,by unfold execOp;simp[ho,he,zoo ht hk hf hs];rfl,?_⟩
 simp only[rep]
 refine⟨_,rfl,rfl,hfl,?_⟩
 rcases h with rfl|h
 left;simp
 right
 intro Z hZ
 obtain⟨h1,h2,h3,h4⟩:=h Z hZ
 exact⟨h1,h2,h3,zpu l off _ _ h4⟩
omit hR in
theorem ya6y{o:Oper}{t:TypeId}{ti:TI}{x y:Operand}{l:List UInt8}{k:IntKind}{m:Int}(ho:o.op=.index t x y)(ht:zd3 P t ti=true)(hk:ti.kind=5)
  (hx:rep (cx w g F.hp) (.str l) (a.eval x)) (hy:rep (cx w g F.hp) (.int k m) (a.eval y)) (h0:0<=m) (h1:m<l.length):
  zg2 P (cx w g F.hp) a o (.int .u8 ((l.getD m.toNat 0).toNat:Int)) w:=by
 have hu:=zjd ht hk
 simp only[rep] at hx hy
 obtain⟨hx,_⟩:=hx
 obtain⟨hy,_⟩:=hy
 have hlt:m.toNat<l.length:=by omega
 have hb:(⟨l.toArray⟩:ByteArray)[m.toNat]?=some (l.getD m.toNat 0):=by
  have hsz:m.toNat<(⟨l.toArray⟩:ByteArray).size:=by simpa[ByteArray.size] using hlt
  rw[getElem?_pos (⟨l.toArray⟩:ByteArray) m.toNat hsz]
  simp[List.getD,hlt,ByteArray.getElem_eq_getElem_data]
 refine⟨.int .u8 ((l.getD m.toNat 0).toNat:Int),?_,?_⟩
 unfold execOp;simp[ho,hx,hy,Instr.index,asIntOf,run_underlying hu,h0,hb]
 simp only[rep]
 have:=(l.getD m.toNat 0).toNat_lt
 generalize (l.getD m.toNat 0).toNat=z at*
 refine⟨trivial,?_,?_⟩<;>simp[IntKind.min,IntKind.max,IntKind.signed,IntKind.bits]<;>omega
omit hR in
theorem zs8{t e:TypeId}{j:TypeInfo}{ad:Addr}{len cap:Nat}{k:IntKind}{m:Int}(hu:P.underlying t=some (.slice e))(hj:P.info? e=some j)(h0:0<=m)(h1:m<len)(hs:ad.spot=none):
  (Instr.indexAt t (.slice (some ad) len cap) (.int k m)).run P w=.ok (.pointer (some ⟨ad.block,ad.off+m.toNat*j.size,none⟩)) w:=by
 have:ad.add (m.toNat*j.size)=⟨ad.block,ad.off+m.toNat*j.size,none⟩:=by
  unfold Addr.add;split
  ·rename_i h;cases ad;simp_all
  rfl
 simp[Instr.indexAt,asIntOf,run_underlying hu,h0,h1,sizeOf,typeInfo,hj,this]
theorem zso{o:Oper}{t:TypeId}{ti:TI}{x y:Operand}{s c:Nat}{l:List D}{k:IntKind}{m:Int}(ho:o.op=.indexAddr t x y)(ht:zd3 P t ti=true)(hk:ti.kind=3)
  (hx:rep (cx w g F.hp) (.imm s l c) (a.eval x)) (hy:rep (cx w g F.hp) (.int k m) (a.eval y)) (h0:0<=m) (h1:m<l.length) (hs:s=ti.esz) (hc3:c/8<3):
  zg2 P (cx w g F.hp) a o (.iptr (c/8) (nth l m.toNat).cells) w:=by
 obtain⟨e,j,hu,hj,hj1,hj2,hj3,hj4,_,_⟩:=zcs ht hk
 simp only[rep] at hx hy
 obtain⟨ad,cap,hx,g1,g2,g3,g4,g5,g6,hfl,g7⟩:=hx
 obtain⟨hy,_⟩:=hy
 have hlt:m.toNat<l.length:=by omega
 rcases g7 with rfl|g7
 simp at hlt
 obtain⟨Z,hZ⟩:=hR.mem.live hc3
 obtain⟨a0,rfl,hsp,hM,hlo,hb,hel⟩:=g7 Z hZ
 obtain⟨v,hv,hvs,hr⟩:=zxt hel hlt
 have hc:=zto hv hr (by rw[hvs,hs,<-hj1];exact hj4)
 refine⟨_,by unfold execOp;simp[ho,hx,hy,zs8 hu hj h0 h1 hsp];rfl,?_⟩
 simp only[rep]
 refine⟨_,rfl,rfl,hfl,.inr fun Z' hZ'=>?_⟩
 have:Z'=Z:=by rw[hZ] at hZ';exact(sj hZ').symm
 subst this
 exact⟨hM,hlo,hb.1,by rw[hj1,<-hs];exact hc⟩
omit hR in
theorem zsm{o:Oper}{t:TypeId}{ti:TI}{x y:Operand}{id s off len:Nat}{oc:Option Nat}{k:IntKind}{m:Int}(ho:o.op=.indexAddr t x y)(ht:zd3 P t ti=true)(hk:ti.kind=3)
  (hx:rep (cx w g F.hp) (.ref id s off len oc) (a.eval x)) (hy:rep (cx w g F.hp) (.int k m) (a.eval y)) (h0:0<=m) (h1:m<len) (hs:s=ti.esz):
  zg2 P (cx w g F.hp) a o (.eptr id s (off+m.toNat) 0) w:=by
 obtain⟨e,j,hu,hj,hj1,hj2,hj3,hj4,_,_⟩:=zcs ht hk
 simp only[rep] at hx hy
 obtain⟨h,ad,cap,hx,g1,g2,g3,_,g4⟩:=hx
 obtain⟨hy,_⟩:=hy
 rcases g4 with g4|⟨b,T,nn,hσ,rfl,hsh,hn⟩
 omega
 refine⟨_,by unfold execOp;simp[ho,hx,hy,zs8 (ad:=⟨b,off*s,none⟩) hu hj h0 h1 rfl];rfl,?_⟩
 simp only[rep]
 refine⟨h,by rw[hs,<-hj1];exact hj4,b,0,hσ,?_⟩
 rw[hj1,<-hs,Nat.add_mul];simp
omit hR in
theorem zsn{o:Oper}{t:TypeId}{ti:TI}{x y:Operand}{id off:Nat}{k:IntKind}{m:Int}(ho:o.op=.indexAddr t x y)(ht:zd3 P t ti=true)(hk:ti.kind=4)
  (hx:rep (cx w g F.hp) (.ptr id off) (a.eval x)) (hy:rep (cx w g F.hp) (.int k m) (a.eval y)) (h0:0<=m) (h1:m<ti.size):
  zg2 P (cx w g F.hp) a o (.ptr id (off+m.toNat)) w:=by
 obtain⟨nn,e,j,hu,hj,hj1,hsz,_⟩:=zzv ht hk
 simp only[rep] at hx hy
 obtain⟨h,b,o',hσ,hx⟩:=hx
 obtain⟨hy,_⟩:=hy
 have hadd:(Addr.mk b (o'+off) none).add (m.toNat*j.size)=⟨b,o'+(off+m.toNat),none⟩:=by
  unfold Addr.add
  rw[hj1,Nat.mul_one]
  split
  simp
  simp[Nat.add_assoc]
 have hlt:m<(nn:Int):=by rw[<-hsz];exact h1
 refine⟨_,by unfold execOp;simp[ho,hx,hy,Instr.indexAt,asIntOf,run_underlying hu,Instr.sureAddr,h0,hlt,sizeOf,typeInfo,hj,hadd];rfl,?_⟩
 simp only[rep]
 exact⟨h,b,o',hσ,rfl⟩
omit hR in
theorem zsf{C:Cx}:∀(k:Nat) (l:List D) (vs:List Value),reps C l vs->reps C (l.drop k) (vs.drop k)
 |0,l,vs,h=>by simpa using h
 |k+1,[],vs,h=>by simp only[reps] at h;subst h;simp only[List.drop_nil,reps]
 |k+1,d::ds,vs,h=>by
  simp only[reps] at h
  obtain⟨v,vs',rfl,_,h⟩:=h
  simpa using zsf k ds vs' h
omit hR in
theorem zse{C:Cx}:∀(k:Nat) (l:List D) (vs:List Value),reps C l vs->reps C (l.take k) (vs.take k)
 |0,l,vs,h=>by simp only[List.take_zero,reps]
 |k+1,[],vs,h=>by simp only[reps] at h;subst h;simp only[List.take_nil,reps]
 |k+1,d::ds,vs,h=>by
  simp only[reps] at h
  obtain⟨v,vs',rfl,hd,h⟩:=h
  simp only[List.take_succ_cons,reps]
  exact⟨v,_,rfl,hd,zse k ds vs' h⟩
omit hR in
theorem zdh{C:Cx}:∀(l:List D) (vs:List Value),reps C l vs->vs.length=l.length
 |[],vs,h=>by simp only[reps] at h;subst h;rfl
 |d::ds,vs,h=>by
  simp only[reps] at h
  obtain⟨v,vs',rfl,_,h⟩:=h
  simp[zdh ds vs' h]
omit hR in
theorem zzz{C:Cx}:∀(l:List D) (vs:List Value) (i:Nat) (d:D),reps C l vs->l[i]?=some d->∃v,vs[i]?=some v/\rep C d v
 |[],vs,i,d,h,hi=>by simp at hi
 |d'::ds,vs,i,d,h,hi=>by
  simp only[reps] at h
  obtain⟨v,vs',rfl,hd,h⟩:=h
  cases i with
  |zero=>simp at hi;subst hi;exact⟨v,rfl,hd⟩
  |succ i=>simpa using zzz ds vs' i d h (by simpa using hi)
omit hR in
theorem ya6z{o:Oper}{t:TypeId}{ti:TI}{x:Operand}{f off sz:Nat}{ag:Bool}{l:List D}{d:D}(ho:o.op=.field t x f)(ht:zd3 P t ti=true)(hk:ti.kind=2)
  (hf:ti.offs[f]?=some (off,sz,ag)) (hx:rep (cx w g F.hp) (.agg l) (a.eval x)) (hd:Tm.part ag sz (l.drop off)=some d):
  zg2 P (cx w g F.hp) a o d w:=by
 obtain⟨i,fs,hi,hu,hsz,hoffs,hall⟩:=zs3 ht hk
 rw[hoffs] at hf
 simp only[List.getElem?_map,Option.map_eq_some_iff,zaa] at hf
 obtain⟨fd,hfd,rfl,rfl,rfl⟩:=hf
 have hmem:fd∈fs.toList:=List.mem_of_getElem? hfd
 obtain⟨h1,h2,h3⟩:=hall fd hmem
 have hfd':fs[f]?=some fd:=by simpa using hfd
 obtain⟨j,hj⟩:=Option.isSome_iff_exists.1 h1
 obtain⟨ud,hud⟩:=Option.isSome_iff_exists.1 h2
 have hsz:P.cellsOf fd.type=j.size:=by simp[Program.cellsOf,hj]
 simp only[rep] at hx
 obtain⟨cs,hx,hr⟩:=hx
 have hag:(Go.isAgg fd.type).run P w=.ok (zoh P fd.type) w:=by
  unfold Go.isAgg zoh
  rw[Sem.run_bind,run_underlying hud,hud]
  cases ud<;>simp
 have hdr:=zsf fd.offset l cs hr
 unfold Tm.part at hd
 cases hrow:zoh P fd.type
 rw[hrow] at hd hag
 cases hl:l.drop fd.offset with
 |nil=>rw[hl] at hd;simp at hd
 |cons d0 ds=>
  rw[hl] at hd hdr
  simp at hd
  subst hd
  simp only[reps] at hdr
  obtain⟨v,vs',hv,hrep,_⟩:=hdr
  have:cs[fd.offset]?=some v:=by
   have h:=congrArg (fun l=>l[0]?) hv
   simpa using h
  exact⟨v,by unfold execOp;simp[ho,hx,Instr.field,run_underlying hu,hfd',asAgg,Go.part,hag,this],hrep⟩
 rw[hrow] at hd hag
 simp at hd
 subst hd
 refine⟨.agg (cs.toArray.extract fd.offset (fd.offset+j.size)),?_,?_⟩
 unfold execOp;simp[ho,hx,Instr.field,run_underlying hu,hfd',asAgg,Go.part,hag,sizeOf,typeInfo,hj]
 simp only[rep]
 refine⟨(cs.drop fd.offset).take j.size,?_,by rw[hsz];exact zse _ _ _ hdr⟩
 congr 1
 apply Array.ext'
 simp
omit hR in
theorem ya3b{o:Oper}{x:Operand}{i:Nat}{l:List D}{d:D}(ho:o.op=.extract x i)(hx:rep (cx w g F.hp) (.tuple l) (a.eval x))(hd:l[i]?=some d):
  zg2 P (cx w g F.hp) a o d w:=by
 simp only[rep] at hx
 obtain⟨cs,hx,hr⟩:=hx
 obtain⟨v,hv,hrep⟩:=zzz l cs i d hr hd
 exact⟨v,by unfold execOp;simp[ho,hx,Instr.extract,hv],hrep⟩
omit hR in
theorem ya3c{o:Oper}{t t':TypeId}{ti ti':TI}{x:Operand}{k k':IntKind}{m:Int}(ho:o.op=.convert t' t x)(ht:zd3 P t ti=true)(ht':zd3 P t' ti'=true)(hk:ti.kind=6)(hi:ti.ik=some k)
  (hx:rep (cx w g F.hp) (.int k' m) (a.eval x)):zg2 P (cx w g F.hp) a o (.int k (wr k m)) w:=by
 have hu:=ya2o ht hk hi
 obtain⟨i',d',hi',hd',_⟩:=zcp ht'
 simp only[rep] at hx
 obtain⟨hx,_⟩:=hx
 refine⟨.int k (k.wrap m),?_,by simp only[rep,wr];exact⟨trivial,zn1 _ _⟩⟩
 unfold execOp
 cases d'<;>simp[ho,hx,convert,run_underlying hu,run_underlying hd',Conv.intToInt]
omit hR in
theorem zsl{o:Oper}{t:TypeId}{ti:TI}{x:Operand}{d:D}(ho:o.op=.makeInterface t x)(ht:zd3 P t ti=true)(hni:ti.kind≠7)(hx:rep (cx w g F.hp) d (a.eval x)):
  zg2 P (cx w g F.hp) a o (.iface t d) w:=by
 obtain⟨i',d',hi',hd',_,_,hm⟩:=zcp ht
 refine⟨.iface t (a.eval x),?_,by simp only[rep];exact⟨_,rfl,hx⟩⟩
 unfold execOp
 cases d'<;>first|exact absurd hm hni|simp[ho,Instr.makeInterface,run_underlying hd']
end
end Go.Tm
