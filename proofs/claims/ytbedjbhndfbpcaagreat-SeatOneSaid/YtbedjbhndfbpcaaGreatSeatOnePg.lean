/- Texts of the proof. -/
import Derived.Laws.BytesString
import Derived.Lib.AppendZerosOnto
import Derived.Test.YtbedjbhndfbpcaaGreatSeatOnePf
set_option linter.unusedVariables false
set_option linter.unusedSimpArgs false
namespace Go.Tm
open Go.RowKit Go.WideShapes
set_option linter.unusedSimpArgs false
theorem zzp{n:Int}(h1:0<=n)(h2:n<=9223372036854775807):IntKind.i64.wrap n=n:=by
 simp[IntKind.wrap,IntKind.signed,IntKind.bits]
 omega
theorem ztv{C:Cx}:∀(xs:List D) (l:List UInt8) (b o:Nat),zmu xs=some l->zcf C xs b o 1->∃ns:List Int,ns.length=xs.length/\l=ns.map (fun n=>UInt8.ofNat n.toNat)/\C.w.rangeAt b o (ns.map (Value.int .u8))
 |[],l,b,o,h,_=>by
  simp only[zmu,za5] at h
  subst h
  exact⟨[],rfl,rfl,fun j v hj=>by simp at hj⟩
 |d::xs,l,b,o,h,he=>by
  simp only[zcf] at he
  obtain⟨⟨v,h1,_,_,h4⟩,h5⟩:=he
  have hd:∃n l',d=.int .u8 n/\zmu xs=some l'/\l=UInt8.ofNat n.toNat::l':=by
   unfold zmu at h
   split at h
   rename_i heq;cases heq
   rename_i n r heq
   cases heq
   split at h
   rename_i l' hl
   cases h
   exact⟨n,l',rfl,hl,rfl⟩
   cases h
   cases h
  obtain⟨n,l',rfl,hl,rfl⟩:=hd
  obtain⟨ns,g1,rfl,g3⟩:=ztv xs l' b (o+1) hl h5
  simp only[rep] at h1
  obtain⟨rfl,_⟩:=h1
  refine⟨n::ns,by simp[g1],by simp,?_⟩
  intro j u hj
  cases j with
  |zero=>simp at hj;subst hj;exact h4 0 _ rfl
  |succ j=>
   have:=g3 j u (by simpa using hj)
   rwa [show o+(j+1)=o+1+j by omega]
theorem zt9:∀(ns:List Int) (s:ByteArray),(ns.foldl (fun r n=>r.push (UInt8.ofNat n.toNat)) s).data.toList=s.data.toList++ns.map (fun n=>UInt8.ofNat n.toNat)
 |[],s=>by simp
 |n::ns,s=>by
  rw[List.foldl_cons,zt9 ns]
  simp[ByteArray.push]
section
variable {P : Program} {E : En} {n : Nat} {F : FrS} {a : Act} {w : World} {g : Gh} (hR : Rel E n F a w g)
include hR
theorem Rel.reword{id:Nat}{blk blk':Blk}(hb:F.hp id=some blk)(h:∀C,C.rf=true->holds C id blk->holds C id blk'):Rel E n (F.eff [(id,some blk')] (0,0)) a w g:=by
 have hp0:effH F.hp [(id,some blk')] id=some blk':=by simp[effH,getL]
 have hp1:∀x,x≠id->effH F.hp [(id,some blk')] x=F.hp x:=by
  intro x hx
  have hb:Nat.beq id x=false:=zbq (fun e=>hx e.symm)
  simp[effH,getL,hb]
 have hne:∀x,effH F.hp [(id,some blk')] x≠none->F.hp x≠none:=by
  intro x h
  by_cases e:x=id
  subst e;rw[hb];simp
  rwa [hp1 x e] at h
 have hown:∀b,ownB g (effH F.hp [(id,some blk')]) b->w.heap.size<=b\/ownB g F.hp b:=by
  rintro b ⟨x,o',h1,h2⟩
  exact .inr ⟨x,o',hne x h1,h2⟩
 have hle:Cx.Le (cx w g F.hp) (cx w g (effH F.hp [(id,some blk')])):=Mem.le (g':=g) (ch:=fun _=>False) ((Keep.refl _ w).mono fun _ _ h=>h) rfl rfl (fun _ _=>rfl) hown
 have:F.eff [(id,some blk')] (0,0)=⟨F.rd,effH F.hp [(id,some blk')],F.nu⟩:=by unfold FrS.eff;rw[zte]
 rw[this]
 refine Rel.change hR (ch:=fun k=>k=id) (Keep.refl _ w) rfl rfl (fun _ _=>rfl) hown ?_ ?_ ?_ (fun _ _=>rfl) (fun _ h=>h)
 intro x blk2 hb2
 by_cases e:x=id
 subst e
 rw[hp0] at hb2
 cases hb2
 exact .inr (h _ rfl (zmi (C:=cx w g F.hp) hle rfl rfl (fun _ _ _=>rfl) (hR.mem.hd x blk hb)))
 rw[hp1 x e] at hb2
 exact .inl ⟨e,hb2⟩
 intro x y b o o' h1 h2 h3 h4
 exact hR.mem.inj x y b o o' (hne x h1) (hne y h2) h3 h4
 intro x h
 obtain⟨h1,h2⟩:=hR.mem.nw x h
 refine⟨h1,?_⟩
 by_cases e:x=id
 subst e;rw[hb] at h2;cases h2
 rw[hp1 x e];exact h2
omit hR in
theorem zwc{C:Cx}(hC:C.rf=true){id e s:Nat}{p q:Bool}{items:List D}(hq:q=true->p=true)(h:holds C id (.arr e s p items)):holds C id (.arr e s q items):=by
 rcases h with h|⟨b,cs,h1,h2,h3,h4⟩
 exact .inl h
 exact .inr ⟨b,cs,h1,h2,h3,zh2 (C:={C with rf:=!p}) (C':={C with rf:=!q}) (zqo (Cx.Le.refl C) hC _ _ (by cases p<;>cases q<;>simp at hq ⊢)) _ _ _ _ rfl h4⟩
theorem zzc{o:Oper}{t:TypeId}{ti:TI}{x y:Operand}{k k':IntKind}{l m:Int}{id:Nat}(hn:F.nu id=true)(ho:o.op=.makeSlice t x y)(ht:zd3 P t ti=true)(hk:ti.kind=3)
  (hx:rep (cx w g F.hp) (.int k l) (a.eval x)) (hy:rep (cx w g F.hp) (.int k' m) (a.eval y)) (h0:0<=l) (h1:l<=m) (hb:m*ti.eby<=140737488355328) (hm:m<=9223372036854775807):
  ze7 P E n a o (F.eff [(id,some (.arr ti.el ti.esz true (List.replicate l.toNat (zdi ti))))] (id,id+1)) (.ref id ti.esz 0 l.toNat (some m.toNat)) w:=by
 obtain⟨e,j,hu,hj,hj1,hj2,hj3,hj4,⟨z,hz,hzs,hzc,hza⟩,hel⟩:=zcs ht hk
 subst hel
 simp only[rep] at hx hy
 obtain⟨hx,_⟩:=hx
 obtain⟨hy,_⟩:=hy
 have hrun:(Instr.makeSlice t (a.eval x) (a.eval y)).run P w=.ok (.slice (some ⟨w.heap.size,0,none⟩) l.toNat m.toNat) (w.alloc (.cells (List.replicate m.toNat z.cells.toList).flatten.toArray ti.el)):=by
  have hlb:¬(l<0):=by omega
  have hml:¬(l>m):=by omega
  have hm0:¬(m<0):=by omega
  have hbb:¬((j.bytes:Int)*m>2 ^ 48):=by rw[hj2,Int.mul_comm];omega
  have hroom:¬(m.toNat*j.bytes>roomBytes):=by
   unfold roomBytes
   rw[hj2]
   have:((m.toNat*ti.eby:Nat):Int)=m*ti.eby:=by rw[Int.natCast_mul,Int.toNat_of_nonneg (by omega)]
   omega
  have hrow:(if m.toNat*j.size=0 then(#[]:Array Value) else z.cells)=#[]/\m.toNat=0\/(if m.toNat*j.size=0 then(#[]:Array Value) else z.cells)=z.cells:=by
   by_cases h:m.toNat*j.size=0
   left;simp only[h,if_true];exact⟨trivial,(Nat.mul_eq_zero.1 h).resolve_right hj4⟩
   right;simp only[h,if_false]
  have hcells:((Array.range (m.toNat*j.size)).map fun i=>(if m.toNat*j.size=0 then(#[]:Array Value) else z.cells)[i%(if m.toNat*j.size=0 then(#[]:Array Value) else z.cells).size]!)=(List.replicate m.toNat z.cells.toList).flatten.toArray:=by
   apply Array.ext'
   rcases hrow with⟨h1,h2⟩|h1
   rw[h1,h2];simp
   rw[h1,<-hzs];exact zm9 z.cells m.toNat
  simp only[Instr.makeSlice,Sem.run_bind,run_underlying hu,Result.andThen_ok,hx,hy,asInt,asIntOf,Sem.run_pure,typeInfo,run_program,hj]
  rw[zzp (by omega) hm,zzp h0 (by omega)]
  have hc:¬((decide (m<0)||decide ((j.bytes:Int)*m>2 ^ 48))=true\/l<0\/l>m):=by simp only[zau,decide_eq_true_eq];omega
  by_cases hz0:m.toNat*j.size=0
  have hmz:m.toNat=0:=(Nat.mul_eq_zero.1 hz0).resolve_right hj4
  simp[hlb,hml,hm0,hbb,hroom,askRoom,sizeOf,typeInfo,hj,hmz,newRow,Array.range_zero']
  omega
  simp only[hz0,if_false] at hcells
  simp[hlb,hml,hm0,hbb,hroom,askRoom,sizeOf,typeInfo,hj,hz0,zeroValue,hz,newRow,hcells]
  omega
 have hzr:∀C:Cx,rep C (zdi ti) z:=fun C=>znt hzc hza
 have hone:z.cells.toList.all (·.oneCell')=true:=(zkd _ _ hzc).1
 have hflen:∀k:Nat,((List.replicate k z.cells.toList).flatten).length=k*ti.esz:=by
  intro k;simp[hzs,hj1]
 have hsplit:List.replicate m.toNat z.cells.toList=List.replicate l.toNat z.cells.toList++List.replicate (m.toNat-l.toNat) z.cells.toList:=by
  rw[List.replicate_append_replicate];congr 1;omega
 have:=znx (P:=P) hR (o:=o) (e:=ti.el) (id:=id) (esz:=ti.esz) (ncap:=m.toNat) (its:=List.replicate l.toNat (zdi ti)) (p:=true) (kl:=none) (oc:=some m.toNat) (cells:=(List.replicate l.toNat z.cells.toList).flatten) (rest:=(List.replicate (m.toNat-l.toNat) z.cells.toList).flatten) (w1:=w) hn (Keep.refl _ w) rfl
  (by unfold execOp;simp only[ho];simp only[Sem.run_bind,hrun,Result.andThen_ok,Sem.run_pure,List.length_replicate];rw[<-List.flatten_append,<-hsplit])
  (by rw[hflen,hflen,<-Nat.add_mul];congr 1;omega) (by simp;omega) (by omega) (fun c h _=>by cases h;rfl) (zqu hzr (by omega) hone _)
 simpa[kill] using this
theorem yaac{o:Oper}{c:Call}{t t':TypeId}{ti:TI}{s x:Operand}{id off len e s'':Nat}{oc:Option Nat}{pu px:Bool}{items xs:List D}(ho:o.op=.call c)(hc:c.callee=.builtin .copy)(hca:c.args.toList=[s,x])(hct:c.argTypes.toList=[t,t'])
  (ht:zd3 P t ti=true) (hk:ti.kind=3) (hs:rep (cx w g F.hp) (.ref id ti.esz off len oc) (a.eval s)) (hb:F.hp id=some (.arr e s'' pu items)) (hs2:s''=ti.esz) (hl:off+len<=items.length) (hx:SrcV (cx w g F.hp) ti.esz xs px (a.eval x)):
  ze7 P E n a o (F.eff [(id,some (.arr e s'' (pu&&px) (items.take off++xs.take len++items.drop (off+Nat.min xs.length len))))] (0,0)) (.int .i64 (Nat.min xs.length len:Nat)) w:=by
 subst hs2
 obtain⟨el,j,hu,hj,hj1,hj2,hj3,hj4,_⟩:=zcs ht hk
 have e1:c.args=#[s,x]:=by apply Array.ext';simpa using hca
 have e2:c.argTypes=#[t,t']:=by apply Array.ext';simpa using hct
 simp only[rep] at hs
 obtain⟨_,ad,cap,hsv,g1,g2,g3,_,g4⟩:=hs
 have hmin:Nat.min xs.length len<=xs.length:=Nat.min_le_left _ _
 have hmin2:Nat.min xs.length len<=len:=Nat.min_le_right _ _
 obtain⟨news,n1,n2,n3,n4⟩:=hx.first (P:=P) hmin
 have htk:xs.take len=xs.take (Nat.min xs.length len):=by
  rw[List.take_eq_take_iff]
  show min len xs.length=min (min xs.length len) xs.length
  omega
 have hsz:(sizeOf el).run P w=.ok ti.esz w:=by simp[sizeOf,typeInfo,hj,hj1]
 have hrun0:∀w',(match ad with|some ad=>(storeCells ad news).run P w|none=>.ok () w)=.ok () w'->(execOp a.eval o).run P w=.ok (.value (.int .i64 (Nat.min xs.length len:Nat))) w':=by
  intro w' h
  unfold execOp
  have hlen:=hx.len (P:=P) w
  have n2':(Builtin.firstCells ti.esz (min xs.length len) (a.eval x)).run P w=.ok news.toArray w:=n2
  cases ad with
  |none=>
   simp only at h
   cases h
   simp[ho,resolve,hc,e1,e2,hsv,invoke,builtin,Builtin.copy_,run_underlying hu,hlen,hsz,n2',goInt]
  |some ad=>
   simp only at h
   simp[ho,resolve,hc,e1,e2,hsv,invoke,builtin,Builtin.copy_,run_underlying hu,hlen,hsz,n2',goInt,h]
 have hd:∀C,rep C (.int .i64 (Nat.min xs.length len:Nat)) (.int .i64 (Nat.min xs.length len:Nat)):=by
  intro C
  simp only[rep]
  refine⟨trivial,?_,?_⟩<;>simp[IntKind.min,IntKind.max,IntKind.signed,IntKind.bits]<;>omega
 by_cases hz:Nat.min xs.length len=0
 have hnn:news=[]:=zah (by rw[n1,hz];simp)
 subst hnn
 have hit:items.take off++xs.take len++items.drop (off+Nat.min xs.length len)=items:=by
  rw[htk,hz];simp
 rw[hit]
 refine⟨_,w,g,.inl (hrun0 w (by cases ad<;>rfl)),hd _,?_⟩
 exact Rel.reword hR hb fun C hC h=>zwc hC (by cases pu<;>cases px<;>simp) h
 rcases g4 with g4|⟨b,T,nn,hσ,rfl,hsh,hnn⟩
 omega
 rcases hR.mem.hd id _ hb with⟨rfl,_⟩|⟨b',cs,hσ',hblk,hszz,hel⟩
 simp at hl;omega
 have e':=hσ'.symm.trans hσ
 simp only[za5,zaa] at e'
 obtain⟨rfl,_⟩:=e'
 rw[htk]
 exact zqn hR (q:=px) hb hσ' hblk hszz hel (by omega) (List.length_take.trans (Nat.min_eq_left hmin)) n1 n3 n4 (fun w' h=>hrun0 w' h) hd
theorem zvo{id s off len e s'':Nat}{pu:Bool}{items:List D}{ad:Option Addr}{cap:Nat}(hs:rep (cx w g F.hp) (.ref id s off len none) (.slice ad len cap))(hb:F.hp id=some (.arr e s'' pu items))(hs2:s''=s)(hz:s≠0):items.length<=off+cap:=by
 subst hs2
 simp only[rep] at hs
 obtain⟨_,ad',cap',hv,g1,g2,g3,goc,g4⟩:=hs
 simp only[Value.slice.injEq] at hv
 obtain⟨rfl,_,rfl⟩:=hv
 obtain⟨b,T,nn,hσ,hsh,hnn⟩:=goc.2 (by simp)
 rcases hR.mem.hd id _ hb with⟨rfl,_⟩|⟨b',cs,hσ',hblk,hszz,hel⟩
 simp
 have e':=hσ'.symm.trans hσ
 simp only[za5,zaa] at e'
 obtain⟨rfl,_⟩:=e'
 have hblk':w.heap[b']?=some (.cells cs e (0,0)):=hblk
 have hshe:(cx w g F.hp).w.shape? b'=some (e,cs.size):=by simp[cx,World.shape?,hblk']
 rw[hsh] at hshe
 simp only[za5,zaa] at hshe
 have h1:items.length*s''<=(off+cap)*s'':=by
  rw[Nat.add_mul,hnn,hshe.2];exact hszz
 exact Nat.le_of_mul_le_mul_right h1 (by omega)
theorem zq1{o:Oper}{c:Call}{t t':TypeId}{ti:TI}{s x:Operand}{xs:List D}{q vx:Bool}{id off len e:Nat}{oc:Option Nat}{p:Bool}{items:List D}(ho:o.op=.call c)(hc:c.callee=.builtin .append)(hca:c.args.toList=[s,x])(hct:c.argTypes.toList=[t,t'])
  (ht:zd3 P t ti=true) (hk:ti.kind=3) (ht':(∃e',P.underlying t'=some (.slice e'))\/P.underlying t'=some .string) (hs:rep (cx w g F.hp) (.ref id ti.esz off len oc) (a.eval s)) (hx:vx=true->SrcV (cx w g F.hp) ti.esz xs q (a.eval x))
  (hb:F.hp id=some (.arr e ti.esz p items)) (v1:vx=true) (v4:off+len+xs.length<=items.length) (hroom':∀ad cap,a.eval s=.slice ad len cap->len+xs.length<=cap):
  ze7 P E n a o (F.eff [(id,some (.arr e ti.esz (p&&q) (items.take (off+len)++xs++items.drop (off+len+xs.length))))] (0,0)) (.ref id ti.esz off (len+xs.length) oc) w:=by
 obtain⟨el,j,hu,hj,hj1,hj2,hj3,hj4,_⟩:=zcs ht hk
 have e1:c.args=#[s,x]:=by apply Array.ext';simpa using hca
 have e2:c.argTypes=#[t,t']:=by apply Array.ext';simpa using hct
 have hop:∀sv,a.eval s=sv->∀v' w',(Builtin.append_ #[t,t'] o.type #[sv,a.eval x]).run P w=.ok v' w'->(execOp a.eval o).run P w=.ok (.value v') w':=by
  intro sv h1 v' w' hr
  unfold execOp;simp[ho,resolve,hc,e1,e2,h1,invoke,builtin,hr]
 have hs0:=hs
 simp only[rep] at hs0
 obtain⟨_,ad,cap,hsv,g1,g2,g3,goc,g4⟩:=hs0
 have hroom:len+xs.length<=cap:=hroom' ad cap hsv
 rw[hsv] at hs
 obtain⟨news,hN,hNc⟩:=(hx v1).src (P:=P) ht'
 have hbase:∀hp',rep (cx w g hp') (.ref id ti.esz off (len+xs.length) oc) (.slice ad (len+xs.length) cap):=by
  intro hp'
  simp only[rep,cx] at hs ⊢
  obtain⟨k0,ad',cap',hv',k1,k2,k3,k4,k5⟩:=hs
  simp only[Value.slice.injEq] at hv'
  obtain⟨rfl,_,rfl⟩:=hv'
  exact⟨k0,_,_,rfl,hroom,k2,k3,k4,k5⟩
 have hres:∀C,Cx.Le (cx w g F.hp) C->rep C (.ref id ti.esz off (len+xs.length) oc) (.slice ad (len+xs.length) cap):=fun C hle=>zfv hle _ _ (hbase F.hp)
 by_cases hz:xs=[]
 subst hz
 have hnn:news=[]:=zah (by simpa using hN.newsLen)
 subst hnn
 have hr:=hop _ hsv _ _ (zio (P:=P) hu hj (by rw[hj1];exact hN) g1)
 have hit:items.take (off+len)++[]++items.drop (off+len+([]:List D).length)=items:=by simp
 rw[hit]
 exact⟨_,w,g,.inl hr,hbase _,Rel.reword hR hb fun C hC h=>zwc hC (by cases p<;>cases q<;>simp) h⟩
 have hpos:=List.length_pos_iff.2 hz
 rcases g4 with g4|⟨b,T,nn,hσ,rfl,hsh,hnn⟩
 omega
 rcases hR.mem.hd id _ hb with⟨rfl,_⟩|⟨b',cs,hσ',hblk,hszz,hel⟩
 simp only[zbo] at v4;omega
 have e':=hσ'.symm.trans hσ
 simp only[za5,zaa] at e'
 obtain⟨rfl,_⟩:=e'
 refine zsx hR (q:=q) hb hσ' hblk hszz hel v4 rfl hN.newsLen (List.all_eq_true.2 hN.one) hNc (fun w' hst=>hop _ hsv _ _ ?_) hres
 rw[Nat.add_mul] at hst
 rw[<-hj1] at hst ⊢
 have hN':Go.Src P j.size t' (a.eval x) xs.length news w:=by rw[hj1];exact hN
 rcases hN'.kind with⟨e3,hk3⟩|hk3<;>simp[Builtin.append_,run_underlying hu,run_underlying hk3,sizeOf,typeInfo,hj,hN'.len,hroom,hN'.cells,Addr.add_lit,hst]
theorem ya1z{o:Oper}{c:Call}{t t':TypeId}{ti:TI}{s x:Operand}{ds:D}{xs:List D}{q vx:Bool}{out:Out}(ho:o.op=.call c)(hc:c.callee=.builtin .append)(hca:c.args.toList=[s,x])(hct:c.argTypes.toList=[t,t'])
  (ht:zd3 P t ti=true) (hk:ti.kind=3) (ht':(∃e',P.underlying t'=some (.slice e'))\/P.underlying t'=some .string) (hs:rep (cx w g F.hp) ds (a.eval s)) (hx:vx=true->SrcV (cx w g F.hp) ti.esz xs q (a.eval x))
  (h:zho F.hp ti.esz ds xs q vx=some out) (hv:out.vc=true):
  ze7 P E n a o (F.eff out.eff out.nw) out.d w:=by
 unfold zho at h
 split at h
 rename_i id s' off len
 split at h
 rename_i e s'' p items hb
 cases hcase:(Nat.beq off 0&&Nat.beq len items.length)
 rw[hcase] at h
 cases h
 simp only[za0] at hv
 obtain⟨⟨⟨v1,v2⟩,v3⟩,v4⟩:=hv
 obtain rfl:=nb v2
 obtain rfl:=nb v3
 have v4:=lb v4
 refine zq1 hR ho hc hca hct ht hk ht' hs hx hb v1 v4 fun ad cap hsv=>?_
 rw[hsv] at hs
 obtain⟨el,j,hu,hj,hj1,hj2,hj3,hj4,_⟩:=zcs ht hk
 have hroom0:=zvo hR hs hb rfl (by omega)
 omega
 rw[hcase] at h;cases h
 cases h
 rename_i id s' off len cc
 split at h
 rename_i e s'' p items hb
 cases hcase:(capK cc&&Nat.blt (off+len) items.length&&Nat.ble (len+xs.length) cc)
 rw[hcase] at h;cases h
 rw[hcase] at h
 cases h
 simp only[za0] at hv hcase
 obtain⟨⟨⟨v1,v2⟩,v3⟩,v4⟩:=hv
 obtain rfl:=nb v2
 obtain rfl:=nb v3
 have v4:=lb v4
 refine zq1 hR ho hc hca hct ht hk ht' hs hx hb v1 v4 fun ad cap hsv=>?_
 rw[hsv] at hs
 simp only[rep] at hs
 obtain⟨_,_,_,hv',_,_,_,goc,_⟩:=hs
 simp only[Value.slice.injEq] at hv'
 obtain⟨_,_,rfl⟩:=hv'
 rw[goc.1 _ rfl hcase.1.1]
 exact lb hcase.2
 cases h
 cases h
theorem ya7u{o:Oper}{c:Call}{t:TypeId}{ti:TI}{x:Operand}{id off len e s':Nat}{oc:Option Nat}{pu:Bool}{items:List D}(ho:o.op=.call c)(hc:c.callee=.builtin .clear)(hca:c.args.toList=[x])(hct:c.argTypes.toList=[t])
  (ht:zd3 P t ti=true) (hk:ti.kind=3) (hx:rep (cx w g F.hp) (.ref id ti.esz off len oc) (a.eval x)) (hb:F.hp id=some (.arr e s' pu items)) (hs2:s'=ti.esz) (hl:off+len<=items.length):
  ze7 P E n a o (F.eff [(id,some (.arr e s' pu (items.take off++List.replicate len (zdi ti)++items.drop (off+len))))] (0,0)) (.tuple []) w:=by
 subst hs2
 obtain⟨el,j,hu,hj,hj1,hj2,hj3,hj4,⟨z,hz,hzs,hzc,hza⟩,_⟩:=zcs ht hk
 have e1:c.args=#[x]:=by apply Array.ext';simpa using hca
 have e2:c.argTypes=#[t]:=by apply Array.ext';simpa using hct
 simp only[rep] at hx
 obtain⟨_,ad,cap,hsv,g1,g2,g3,_,g4⟩:=hx
 have hd:∀C,rep C (.tuple []) (.tuple #[]):=by
  intro C
  simp only[rep,reps]
  exact⟨[],rfl,rfl⟩
 by_cases hz0:len=0
 subst hz0
 have hit:items.take off++List.replicate 0 (zdi ti)++items.drop (off+0)=items:=by simp
 rw[hit]
 refine⟨.tuple #[],w,g,.inl ?_,hd _,?_⟩
 unfold execOp
 cases ad<;>simp[ho,resolve,hc,e1,e2,hsv,invoke,builtin,Builtin.clear_,run_underlying hu]
 exact Rel.reword hR hb fun C hC h=>h
 rcases g4 with g4|⟨b,T,nn,hσ,rfl,hsh,hnn⟩
 omega
 rcases hR.mem.hd id _ hb with⟨rfl,_⟩|⟨b',cs,hσ',hblk,hszz,hel⟩
 simp at hl;omega
 have e':=hσ'.symm.trans hσ
 simp only[za5,zaa] at e'
 obtain⟨rfl,_⟩:=e'
 have hzl:(Builtin.zeroCells z.cells len).toList=(List.replicate len z.cells.toList).flatten:=zm9 z.cells len
 have hzv:(zeroValue el).run P w=.ok z w:=by simp[zeroValue,typeInfo,hj,hz]
 have:=zqn (P:=P) hR (o:=o) (q:=true) (mids:=List.replicate len (zdi ti)) (nv:=(List.replicate len z.cells.toList).flatten) (v:=.tuple #[]) (d:=.tuple []) hb hσ' hblk hszz hel hl (by simp) (by simp[hzs,hj1]) (by
   have:=(zkd _ _ hzc).1
   simp only[List.all_flatten,List.all_replicate]
   simp[this]) (zqu (fun C=>znt hzc hza) (by omega) (zkd _ _ hzc).1 len) (fun w' h=>by
   rw[<-hzl] at h
   unfold execOp
   obtain⟨k,rfl⟩:∃k,len=k+1:=⟨len-1,by omega⟩
   simp[ho,resolve,hc,e1,e2,hsv,invoke,builtin,Builtin.clear_,run_underlying hu,hzv,h]) hd
 simpa using this
omit hR in
theorem ya5h(r:Nat):(shape r).run P w=.ok (w.shape? r) w:=rfl
theorem zzd{o:Oper}{t t':TypeId}{ti tj ti':TI}{x:Operand}{l:List UInt8}(ho:o.op=.convert t' t x)(ht:zd3 P t ti=true)(hk:ti.kind=3)(hte:zd3 P ti.el tj=true)(hke:tj.kind=6)(hik:tj.ik=some .u8)(ht':zd3 P t' ti'=true)
  (hx:rep (cx w g F.hp) (.str l) (a.eval x)):ze7 P E n a o (F.eff [] (0,0)) (.imm 1 (l.map ub) 10) w:=by
 obtain⟨e,j,hu,hj,hj1,hj2,hj3,hj4,_,hel⟩:=zcs ht hk
 subst hel
 have hue:=ya2o hte hke hik
 obtain⟨i',d',hi',hd',_⟩:=zcp ht'
 simp only[rep] at hx
 obtain⟨hx,hlen⟩:=hx
 have hsz:(⟨l.toArray⟩:ByteArray).size=l.length:=by simp[ByteArray.size]
 have hge:=grownCap_ge w l.length 0 ti.el
 have hmx:=grownCap_le_maxLen w l.length 0 ti.el (by unfold maxLen;omega)
 unfold maxLen at hmx
 let cs:Array Value:=((l.map fun b:UInt8=>Value.int .u8 (b.toNat:Int))++List.replicate (grownCap w l.length 0 ti.el-l.length) (Value.int .u8 0)).toArray
 have hcs:cs.size=grownCap w l.length 0 ti.el:=by simp[cs];omega
 let w1:=w.drew.alloc (.cells cs ti.el)
 have hblk1:w1.heap[w.heap.size]?=some (.cells cs ti.el (0,0)):=heap_alloc_new w.drew _
 have hrun:(execOp a.eval o).run P w=.ok (.value (.slice (some ⟨w.heap.size,0,none⟩) l.length (grownCap w l.length 0 ti.el))) (w1.freeze {block:=w.heap.size,off:=cs.size} 1):=by
  have hsb:(Conv.stringToBytes ti.el ⟨l.toArray⟩).run P w=.ok (.slice (some ⟨w.heap.size,0,none⟩) l.length (grownCap w l.length 0 ti.el)) (w1.freeze {block:=w.heap.size,off:=cs.size} 1):=by
   have hcells:(Array.map (fun b:UInt8=>Value.int .u8 (b.toNat:Int)) l.toArray++Array.replicate (grownCap w l.length 0 ti.el-l.length) (Value.int .u8 0))=cs:=by
    apply Array.ext';simp[cs]
   have hshape:w1.shape? w.heap.size=some (ti.el,cs.size):=by simp[World.shape?,hblk1]
   have hms:(markStringish ⟨w.heap.size,0,none⟩).run P w1=.ok () (w1.freeze {block:=w.heap.size,off:=cs.size} 1):=by
    simp only[markStringish,Sem.run_bind,ya5h,Result.andThen_ok,hshape]
    rfl
   have hch:(choose (.appendCap l.length 0 ti.el)).run P w=.ok (grownCap w l.length 0 ti.el) w.drew:=rfl
   have hnr:(newRow ti.el cs).run P w.drew=.ok ⟨w.heap.size,0,none⟩ w1:=rfl
   simp only[Conv.stringToBytes,hsz,Sem.run_bind,hch,Result.andThen_ok,hcells,hnr,hms,Sem.run_pure]
  unfold execOp
  cases d'<;>simp[ho,hx,convert,run_underlying hu,run_underlying hd',run_underlying hue,hsb]
 have hK:Keep (fun _=>False) w (w1.freeze {block:=w.heap.size,off:=cs.size} 1):=by
  have h1:Keep (fun _=>False) w w1:=(Keep.refl _ w).drew.trans (Keep.alloc _ _ _)
  refine⟨h1.os,h1.tape,h1.output,?_,fun k hk hx=>?_,fun k hk=>?_⟩
  have:=h1.size
  simpa[World.freeze] using this
  rw[<-h1.block k hk hx]
  simp only[World.freeze,Nat.one_ne_zero,if_false]
  rw[Array.getElem?_modify]
  simp[Nat.ne_of_gt hk]
  rw[<-h1.shp k hk]
  unfold World.shape?
  simp only[World.freeze,Nat.one_ne_zero,if_false]
  rw[Array.getElem?_modify]
  simp[Nat.ne_of_gt hk]
 have hblk:(w1.freeze {block:=w.heap.size,off:=cs.size} 1).heap[w.heap.size]?=some (.cells cs ti.el (cs.size,cs.size+1)):=by
  simp only[World.freeze,Nat.one_ne_zero,if_false]
  rw[Array.getElem?_modify]
  simp[hblk1]
 have hrange:=zfq hblk [] (l.map fun b=>Value.int .u8 (b.toNat:Int)) (List.replicate (grownCap w l.length 0 ti.el-l.length) (Value.int .u8 0)) (by simp[cs]) rfl
 rw[zml]
 refine⟨_,_,g,.inl hrun,?_,Rel.ext hR hK⟩
 simp only[rep]
 refine⟨some ⟨w.heap.size,0,none⟩,grownCap w l.length 0 ti.el,by rw[List.length_map],by rw[List.length_map];exact hge,by omega,by simp,by simp,by simp,by simp,fun _=>rfl,.inr fun Z' hZ'=>?_⟩
 obtain⟨Z1,k1,k2,k3⟩:=hR.mem.zs.z1
 have:Z'=Z1:=by
  have:g.zn 1=some Z':=by simpa[Cx.zone,cx] using hZ'
  rw[k1] at this
  exact(sj this).symm
 subst this
 refine⟨_,rfl,rfl,?_,k3 _ (za4 _),⟨(Array.getElem?_eq_some_iff.1 hblk).1,fun h=>by simp at h⟩,?_⟩
 intro h
 have:w.heap.size<w.heap.size:=hR.mem.own_lt h
 omega
 exact zox l _ _ _ hrange _ rfl (Cx.Le.refl ((cx (w1.freeze {block:=w.heap.size,off:=cs.size} 1) g F.hp).at Z'))
omit hR in
theorem ya1n{C:Cx}{o:Oper}{t t':TypeId}{ti ti' tj:TI}{x:Operand}{xs:List D}{p:Bool}{l:List UInt8}(hCw:C.w=w)(ho:o.op=.convert t' t x)(ht:zd3 P t ti=true)(hk:ti.kind=5)(ht':zd3 P t' ti'=true)(hk':ti'.kind=3)(hte:zd3 P ti'.el tj=true)(hke:tj.kind=6)(hik:tj.ik=some .u8)
  (hx:SrcV C 1 xs p (a.eval x)) (hns:∀s,a.eval x≠.string s) (hl:zmu xs=some l) (hlen:(xs.length:Int)<=9223372036854775807):zg2 P C a o (.str l) w:=by
 have hu:=zjd ht hk
 obtain⟨e,j,hu',hj,_,_,_,_,_,hel⟩:=zcs ht' hk'
 subst hel
 have hue:=ya2o hte hke hik
 subst hCw
 rcases hx with⟨ax,c,hv,hx⟩|⟨_,s,hv,_⟩
 have hcv:(convert t' t (a.eval x)).run P C.w=(Conv.bytesToString (a.eval x)).run P C.w:=by
  rw[hv]
  cases ax<;>simp[convert,run_underlying hu,run_underlying hu',run_underlying hue]
 have key:∃ns:List Int,ns.length=xs.length/\l=ns.map (fun n=>UInt8.ofNat n.toNat)/\(Conv.bytesToString (a.eval x)).run P C.w=.ok (.string (ns.foldl (fun r n=>r.push (UInt8.ofNat n.toNat)) ByteArray.empty)) C.w:=by
  rcases hx with rfl|⟨a0,rfl,hs,he⟩
  simp only[zmu,za5] at hl
  subst hl
  refine⟨[],rfl,rfl,?_⟩
  rw[hv]
  cases ax with
  |none=>simp[Conv.bytesToString]
  |some a0=>exact run_bytesToString C.w a0 0 c [] (by simp[loadCells,loadCellsFrom])
  obtain⟨ns,h1,h2,h3⟩:=ztv xs l _ _ hl he
  refine⟨ns,h1,h2,?_⟩
  rw[hv]
  refine run_bytesToString C.w a0 xs.length c ns ?_
  have:=run_loadCells_list (P:=P) C.w a0 (ns.map (Value.int .u8)) (fun j v hj=>by rw[zry hs];exact h3 j v hj)
  rw[List.length_map,h1] at this
  exact this
 obtain⟨ns,h1,h2,h3⟩:=key
 refine⟨_,by unfold execOp;simp only[ho];simp only[Sem.run_bind,hcv,h3,Result.andThen_ok,Sem.run_pure];rfl,?_⟩
 simp only[rep]
 refine⟨?_,by rw[h2,List.length_map,h1];exact hlen⟩
 congr 1
 apply bytes_inj
 rw[zt9]
 rw[<-h2]
 show []++l=l
 rfl
 exact absurd hv (hns _)
end
section
variable {P : Program} {E : En} {n : Nat} {F : FrS} {a : Act} {w : World} {g : Gh} (hR : Rel E n F a w g)
include hR
theorem ya1r{o:Oper}{d:D}{v:Value}{id e s off m b:Nat}{p q:Bool}{items mids:List D}{cs:Array Value}{nv:List Value}(hb:F.hp id=some (.arr e s p items))(hσ:g.σ id=some (b,0))(hblk:w.heap[b]?=some (.cells cs e (0,0)))
  (hel:zcf {cx w g F.hp with rf:=!p} items b 0 s) (hl:off<=items.length) (hl2:items.length<=off+m) (hfit0:off*s+m*s<=cs.size) (hm:mids.length=m) (hnv:nv.length=m*s) (h1:nv.all (·.oneCell')=true) (hmid:Carry {cx w g F.hp with rf:=!q} mids s nv)
  (hrun:∀w',(storeCells ⟨b,off*s,none⟩ nv).run P w=.ok () w'->(execOp a.eval o).run P w=.ok (.value v) w') (hd:∀C,rep C d v):
  ze7 P E n a o (F.eff [(id,some (.arr e s (p&&q) (items.take off++mids++items.drop (off+m))))] (0,0)) d w:=by
 have hfit:off*s+nv.length<=cs.size:=by rw[hnv];exact hfit0
 have hst:=run_storeCells_at P b (off*s) e nv 0 cs w hblk (by simpa using hfit) (List.all_eq_true.1 h1)
 simp only[Nat.add_zero] at hst
 have hszz:(cs.toList.take (off*s)++nv++cs.toList.drop (off*s+nv.length)).toArray.size=cs.size:=by simp;omega
 have hd0:items.drop (off+m)=[]:=List.drop_eq_nil_of_le hl2
 refine⟨v,_,g,.inl (hrun _ hst),hd _,Rel.wrote hR (by rw[hb];simp) hσ (zj8 w b cs _ e _ hblk hszz) ?_⟩
 intro C hC hle hrf hσC
 have hblkC:C.w.heap[b]?=some (.cells (cs.toList.take (off*s)++nv++cs.toList.drop (off*s+nv.length)).toArray e (0,0)):=by subst hC;exact setRow_heap w b cs _ e _ hblk
 have htl:(items.take off).length=off:=by simp;omega
 obtain⟨olds,o1,o2,o3,o4⟩:=zkc _ _ _ _ (zhl _ off _ _ _ hel)
 rw[htl] at o1
 have hold0:cs.toList.take (off*s)=olds:=by
  apply List.ext_getElem?
  intro i
  rw[List.getElem?_take]
  split
  rename_i hlt
  have hlo:i<olds.length:=by rw[o1];exact hlt
  have:=o2 i olds[i] (List.getElem?_eq_getElem hlo)
  simp only[cx,World.cell?,hblk,Nat.zero_add] at this
  rw[List.getElem?_eq_getElem hlo]
  simpa using this
  rename_i hge
  rw[List.getElem?_eq_none];rw[o1];omega
 refine .inr ⟨b,_,hσC,hblkC,?_,?_⟩
 rw[hszz,hd0]
 simp only[zag,zaq,htl,hm,Nat.add_mul]
 exact hfit0
 rw[hd0,zag]
 refine zhb _ _ _ _ _ (o4 _ _ _ (zfq hblkC [] olds (nv++cs.toList.drop (off*s+nv.length)) (by rw[hold0];simp) rfl) _ rfl (zqo hle rfl _ _ (by cases p<;>cases q<;>simp))) ?_
 refine hmid _ _ _ (zfq hblkC olds nv (cs.toList.drop (off*s+nv.length)) (by rw[hold0]) ?_) _ rfl (zqo hle rfl _ _ (by cases p<;>cases q<;>simp))
 rw[Nat.zero_add,htl,o1]
theorem ya7t{o:Oper}{c:Call}{t t':TypeId}{ti:TI}{s x:Operand}{id off len e s'' id2 off2 len2 e2 s2:Nat}{oc oc2:Option Nat}{pu px:Bool}{items items2:List D}(ho:o.op=.call c)(hc:c.callee=.builtin .copy)(hca:c.args.toList=[s,x])(hct:c.argTypes.toList=[t,t'])
  (ht:zd3 P t ti=true) (hk:ti.kind=3) (hs:rep (cx w g F.hp) (.ref id ti.esz off len oc) (a.eval s)) (hb:F.hp id=some (.arr e s'' pu items)) (hs2:s''=ti.esz) (hl:off<=items.length)
  (hx:rep (cx w g F.hp) (.ref id2 ti.esz off2 len2 oc2) (a.eval x)) (hb2:F.hp id2=some (.arr e2 s2 px items2)) (hs3:s2=ti.esz) (hl2:off2+Nat.min len2 len<=items2.length):
  ze7 P E n a o (F.eff [(id,some (.arr e s'' (pu&&px) (items.take off++(items2.drop off2).take (Nat.min len2 len)++items.drop (off+Nat.min len2 len))))] (0,0)) (.int .i64 (Nat.min len2 len:Nat)) w:=by
 subst hs2
 subst hs3
 obtain⟨el,j,hu,hj,hj1,hj2,hj3,hj4,_⟩:=zcs ht hk
 have e1:c.args=#[s,x]:=by apply Array.ext';simpa using hca
 have e2':c.argTypes=#[t,t']:=by apply Array.ext';simpa using hct
 have hs0:=hs
 simp only[rep] at hs
 obtain⟨_,ad,cap,hsv,g1,g2,g3,_,g4⟩:=hs
 have hx0:=hx
 simp only[rep] at hx
 obtain⟨k0,ad2,cap2,hxv,k1,k2,k3,k5,k4⟩:=hx
 have hmin:Nat.min len2 len<=len2:=Nat.min_le_left _ _
 have hmin2:Nat.min len2 len<=len:=Nat.min_le_right _ _
 have hxt:rep (cx w g F.hp) (.ref id2 ti.esz off2 (Nat.min len2 len) oc2) (.slice ad2 (Nat.min len2 len) cap2):=by
  simp only[rep]
  exact⟨k0,ad2,cap2,rfl,by omega,k2,k3,k5,k4⟩
 have hsrc:=zn5 hR (esz:=ti.esz) (vx:=Nat.beq ti.esz ti.esz&&Nat.beq ti.esz ti.esz&&Nat.ble (off2+Nat.min len2 len) items2.length) (xs:=(items2.drop off2).take (Nat.min len2 len)) (p:=px) hxt (by simp only[srcD,hb2]) (by
  simp only[za0];exact⟨⟨Nat.beq_refl _,Nat.beq_refl _⟩,zap hl2⟩)
 have hlen:((items2.drop off2).take (Nat.min len2 len)).length=Nat.min len2 len:=by simp only[List.length_take,List.length_drop];omega
 obtain⟨news,n1,n2,n3,n4⟩:=hsrc.first (P:=P) (n:=Nat.min len2 len) (by rw[hlen];exact za4 _)
 rw[List.take_of_length_le (by rw[hlen];exact za4 _)] at n4
 have n2':(Builtin.firstCells ti.esz (min len2 len) (.slice ad2 len2 cap2)).run P w=.ok news.toArray w:=by cases ad2<;>exact n2
 have hsz:(sizeOf el).run P w=.ok ti.esz w:=by simp[sizeOf,typeInfo,hj,hj1]
 have hrun0:∀w',(match ad with|some ad=>(storeCells ad news).run P w|none=>.ok () w)=.ok () w'->(execOp a.eval o).run P w=.ok (.value (.int .i64 (Nat.min len2 len:Nat))) w':=by
  intro w' h
  unfold execOp
  cases ad with
  |none=>
   simp only at h
   cases h
   simp[ho,resolve,hc,e1,e2',hsv,hxv,invoke,builtin,Builtin.copy_,Builtin.lenOf,run_underlying hu,hsz,n2',goInt]
  |some ad=>
   simp only at h
   simp[ho,resolve,hc,e1,e2',hsv,hxv,invoke,builtin,Builtin.copy_,Builtin.lenOf,run_underlying hu,hsz,n2',goInt,h]
 have hd:∀C,rep C (.int .i64 (Nat.min len2 len:Nat)) (.int .i64 (Nat.min len2 len:Nat)):=by
  intro C
  simp only[rep]
  refine⟨trivial,?_,?_⟩<;>simp[IntKind.min,IntKind.max,IntKind.signed,IntKind.bits]<;>omega
 by_cases hz:Nat.min len2 len=0
 have hnn:news=[]:=zah (by rw[n1,hz];simp)
 subst hnn
 have hit:items.take off++(items2.drop off2).take (Nat.min len2 len)++items.drop (off+Nat.min len2 len)=items:=by
  rw[hz];simp
 rw[hit]
 refine⟨_,w,g,.inl (hrun0 w (by cases ad<;>rfl)),hd _,?_⟩
 exact Rel.reword hR hb fun C hC h=>zwc hC (by cases pu<;>cases px<;>simp) h
 rcases g4 with g4|⟨b,T,nn,hσ,rfl,hsh,hnn⟩
 omega
 rcases hR.mem.hd id _ hb with⟨rfl,hσ0⟩|⟨b',cs,hσ',hblk,hszz,hel⟩
 rw[hσ] at hσ0;cases hσ0
 have e':=hσ'.symm.trans hσ
 simp only[za5,zaa] at e'
 obtain⟨rfl,_⟩:=e'
 by_cases hcase:off+Nat.min len2 len<=items.length
 exact zqn hR (q:=px) hb hσ' hblk hszz hel hcase hlen n1 n3 n4 (fun w' h=>hrun0 w' h) hd
 have hblk':w.heap[b']?=some (.cells cs e (0,0)):=hblk
 have hshe:(cx w g F.hp).w.shape? b'=some (e,cs.size):=by simp[cx,World.shape?,hblk']
 rw[hsh] at hshe
 simp only[za5,zaa] at hshe
 refine ya1r hR (q:=px) hb hσ' hblk hel hl (by omega) ?_ hlen n1 n3 n4 (fun w' h=>hrun0 w' h) hd
 rw[<-hshe.2]
 refine zao ?_ hnn
 exact Nat.add_le_add_left (Nat.mul_le_mul_right _ (by omega)) _
theorem zuz{o:Oper}{c:Call}{t t':TypeId}{ti:TI}{s x:Operand}{k kn:IntKind}{m:Int}{id cap:Nat}{base:Option Addr}{p:Bool}{its:List D}(hn:F.nu id=true)(ho:o.op=.call c)(hc:c.callee=.builtin .append)(hca:c.args.toList=[s,x])(hct:c.argTypes.toList=[t,t'])
  (ht:zd3 P t ti=true) (hk:ti.kind=3) (ht':P.underlying t'=some (.int kn)) (hsv:a.eval s=.slice base its.length cap) (hsrc:SrcV (cx w g F.hp) ti.esz its p (.slice base its.length cap))
  (hx:rep (cx w g F.hp) (.int k m) (a.eval x)) (h0:0<m) (hlt:cap<its.length+m.toNat) (hbd:(its.length+m.toNat)*ti.eby<=140737488355328):
  ze7 P E n a o (F.eff [(id,some (.arr ti.el ti.esz p (its++List.replicate m.toNat (zdi ti))))] (id,id+1)) (.ref id ti.esz 0 (its.length+m.toNat) none) w:=by
 obtain⟨el,j,hu,hj,hj1,hj2,hj3,hj4,⟨z,hz,hzs,hzc,hza⟩,hel⟩:=zcs ht hk
 subst hel
 have e1:c.args=#[s,x]:=by apply Array.ext';simpa using hca
 have e2':c.argTypes=#[t,t']:=by apply Array.ext';simpa using hct
 simp only[rep] at hx
 obtain⟨hxv,_⟩:=hx
 have hmn:((m.toNat:Nat):Int)=m:=Int.toNat_of_nonneg (by omega)
 have hbd2:its.length+m.toNat<=140737488355328:=by
  have:(its.length+m.toNat)*1<=(its.length+m.toNat)*ti.eby:=Nat.mul_le_mul_left _ (by omega)
  omega
 obtain⟨olds,hO,hOc⟩:=hsrc.src (P:=P) (.inl ⟨ti.el,hu⟩)
 have hr0:=Go.Lib.run_append_grow_zeros (P:=P) w t t' o.type ti.el j z k kn hu ht' hj hz base its.length cap olds (by rw[hj1];exact hO.cellsD) m.toNat (by omega) (by omega) hlt (by omega) (by
  have:m.toNat*ti.eby<=(its.length+m.toNat)*ti.eby:=Nat.mul_le_mul_right _ (by omega)
  rw[hj2];omega) (growslice_fits (by omega) (by rw[hj2];exact hbd))
 rw[hmn] at hr0
 have hr:(execOp a.eval o).run P w=.ok (.value (.slice (some ⟨w.heap.size,0,none⟩) (its.length+m.toNat) (grownCap w (its.length+m.toNat) cap ti.el)))
   (w.drew.alloc (.cells (olds.toArray++Builtin.zeroCells z.cells m.toNat++Builtin.zeroCells z.cells (grownCap w (its.length+m.toNat) cap ti.el-(its.length+m.toNat))) ti.el)):=by
  unfold execOp;simp[ho,resolve,hc,e1,e2',hsv,hxv,invoke,builtin,hr0]
 have hge:=grownCap_ge w (its.length+m.toNat) cap ti.el
 have hmx:=grownCap_le_maxLen w (its.length+m.toNat) cap ti.el (by unfold maxLen;omega)
 unfold maxLen at hmx
 have hone:z.cells.toList.all (·.oneCell')=true:=(zkd _ _ hzc).1
 have hzr:∀C:Cx,rep C (zdi ti) z:=fun C=>znt hzc hza
 have hzl:∀k,(Builtin.zeroCells z.cells k).toList=(List.replicate k z.cells.toList).flatten:=by
  intro k
  have:=zm9 z.cells k
  unfold Builtin.zeroCells
  rw[this]
 have hlen2:(its++List.replicate m.toNat (zdi ti)).length=its.length+m.toNat:=by
  rw[zaq,List.length_replicate]
 rw[<-hlen2]
 have:=znx (P:=P) hR (o:=o) (e:=ti.el) (id:=id) (esz:=ti.esz) (ncap:=grownCap w (its.length+m.toNat) cap ti.el) (its:=its++List.replicate m.toNat (zdi ti)) (p:=p) (kl:=none) (oc:=none)
  (cells:=olds++(List.replicate m.toNat z.cells.toList).flatten) (rest:=(Builtin.zeroCells z.cells (grownCap w (its.length+m.toNat) cap ti.el-(its.length+m.toNat))).toList) (w1:=w.drew) hn (Keep.refl _ w).drew rfl
  (by
   rw[hr,hlen2]
   congr 3
   apply Array.ext'
   simp[hzl])
  (by
   have hz0:(Builtin.zeroCells z.cells (grownCap w (its.length+m.toNat) cap ti.el-(its.length+m.toNat))).toList.length=(grownCap w (its.length+m.toNat) cap ti.el-(its.length+m.toNat))*ti.esz:=by
    rw[<-hj1,<-hzs,<-size_zeroCells];exact Array.length_toList
   have hz1:((List.replicate m.toNat z.cells.toList).flatten).length=m.toNat*ti.esz:=by simp[hzs,hj1]
   rw[zaq,hO.newsLen,hz0,hz1,<-Nat.add_mul,<-Nat.add_mul]
   congr 1;omega)
  (by omega) (by omega) (fun c h=>by cases h)
  (by
   intro w' b' o' hr' C' hw hle
   refine zhb _ _ _ _ _ (hOc w' b' o' ?_ C' hw hle) (zqu hzr (by omega) hone _ w' b' _ ?_ C' hw hle)
   intro i u hi
   exact hr' i u (by rw[List.getElem?_append_left (List.getElem?_eq_some_iff.1 hi).1];exact hi)
   intro i u hi
   have:=hr' (olds.length+i) u (by rw[List.getElem?_append_right (by omega),Nat.add_sub_cancel_left];exact hi)
   rwa [show o'+(olds.length+i)=o'+its.length*ti.esz+i by rw[hO.newsLen];omega] at this)
 simpa[kill] using this
theorem ya4k{o:Oper}{c:Call}{t t':TypeId}{ti:TI}{s x:Operand}{k kn:IntKind}{m:Int}{id id' off len e' s'' cap:Nat}{p:Bool}{items:List D}(hn:F.nu id=true)(ho:o.op=.call c)(hc:c.callee=.builtin .append)(hca:c.args.toList=[s,x])(hct:c.argTypes.toList=[t,t'])
  (ht:zd3 P t ti=true) (hk:ti.kind=3) (ht':P.underlying t'=some (.int kn)) (hs:rep (cx w g F.hp) (.ref id' ti.esz off len (some cap)) (a.eval s)) (hb:F.hp id'=some (.arr e' s'' p items)) (hs2:s''=ti.esz) (hl:off+len<=items.length)
  (hx:rep (cx w g F.hp) (.int k m) (a.eval x)) (h0:0<m) (hck:capK cap=true) (hlt:cap<len+m.toNat) (hbd:(len+m.toNat)*ti.eby<=140737488355328):
  ze7 P E n a o (F.eff [(id,some (.arr ti.el ti.esz p ((items.drop off).take len++List.replicate m.toNat (zdi ti))))] (id,id+1)) (.ref id ti.esz 0 (len+m.toNat) none) w:=by
 subst hs2
 have hs0:=hs
 simp only[rep] at hs
 obtain⟨_,ad,cap',hsv,g1,g2,g3,g5,g4⟩:=hs
 have hcc:=g5.1 cap rfl hck
 subst hcc
 have hlen:((items.drop off).take len).length=len:=by simp;omega
 have hsrc:SrcV (cx w g F.hp) ti.esz ((items.drop off).take len) p (.slice ad ((items.drop off).take len).length cap'):=by
  rw[hlen]
  refine zn5 hR (esz:=ti.esz) (dx:=.ref id' ti.esz off len (some cap')) (vx:=Nat.beq ti.esz ti.esz&&Nat.beq ti.esz ti.esz&&Nat.ble (off+len) items.length) (by rw[<-hsv];exact hs0) ?_ ?_
  simp only[srcD,hb]
  simp only[za0]
  exact⟨⟨Nat.beq_refl _,Nat.beq_refl _⟩,zap hl⟩
 have:=zuz hR hn ho hc hca hct ht hk ht' (its:=(items.drop off).take len) (by rw[hlen];exact hsv) hsrc hx h0 (by rw[hlen];exact hlt) (by rw[hlen];exact hbd)
 rw[hlen] at this
 exact this
end
end Go.Tm
