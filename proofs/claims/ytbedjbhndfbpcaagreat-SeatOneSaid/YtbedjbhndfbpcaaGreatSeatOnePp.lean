/- Texts of the proof. -/
import Derived.Test.YtbedjbhndfbpcaaGreatSeatOnePo
import Derived.Test.YtbedjbhndfbpcaaGreatSeatOnePn
namespace Go.Proofs
open Go.Tm Go.RowKit Go.WideShapes
set_option maxRecDepth 100000
set_option linter.unusedSimpArgs false
set_option linter.unusedVariables false
attribute [local go_sem] zfj runE runK ziy zrj aop opd zo5 opds opdO ev zu9 keep List.any natbeq Bool.false_or Bool.true_or zgc cond_true cond_false Bool.cond_false_right Bool.cond_true_left beq_true beq_false imp_self implies_true getR getL put St.app effL del nwB ztw Nat.lt_irrefl Nat.lt_add_one ztz za4 Nat.beq_refl zjr zho capS zpj zne zdi D.ids D.idsL bin zy2 zp7 binT zua Tm.part zn7 zqp oneD zql zn4 srcD zgn zo8 decide_true gval zqr D.cells zai List.map_nil List.take List.drop List.length_map List.append Int.toNat_natCast and_true true_and decide_false zak zbo zag zas Bool.and_true Bool.true_and Bool.not_false Bool.not_true ne_eq not_false_eq_true BEq.rfl List.getElem?_cons_zero List.getElem?_cons_succ List.getElem?_nil Nat.zero_add List.all_cons List.all_nil List.isEmpty_cons List.isEmpty_nil Option.getD_some Option.getD_none List.any_cons List.any_nil List.drop_succ_cons List.drop_zero unfL unf okM okML low3 zb2 true_or or_true Nat.zero_mul Nat.zero_le fpOf zo6
theorem ya5m:ya2e Tryz.prog 123:=zvq (r:=4) Tryz.func123 (by kernel_rfl) (by kernel_rfl) (by kernel_rfl) (by kernel_rfl) (Tryz.tmOk.1 22 (by decide)) rfl
theorem ya43(i j k:Nat)(hij:i≠j)(hik:i≠k)(hjk:j≠k)(L:List D)(x:D)(P Q:Bool)(hL:L.length<1000000):
  zbv Tryz.prog 103 [.ref i 1 0 L.length (some uC),.int .i64 (L.length:Int),.ref j 1 0 1 (some 1)] [(i,.arr 3 1 P L),(j,.arr 3 1 Q [x])] (.ref k 1 0 (L.length+1) (some uC)) [(k,some (.arr 3 1 (P&&Q) (L++[x]))),(i,none)] (k,k+1):=by
 have bij:Nat.beq i j=false:=zbq hij
 have bik:Nat.beq i k=false:=zbq hik
 have bjk:Nat.beq j k=false:=zbq hjk
 have bji:Nat.beq j i=false:=zbq (Ne.symm hij)
 have bki:Nat.beq k i=false:=zbq (Ne.symm hik)
 have bkj:Nat.beq k j=false:=zbq (Ne.symm hjk)
 have n10:¬((1:Int)=0):=by omega
 have hx:(1:Nat)<=1:=za4 _
 refine zeh Tryz.tmOk Tryz.func103 rfl (by decide) (lb rfl) (by simp) ?_
 intro hwf
 refine .seq ?_
 refine .pp zS [0,1,2] (by intro q hq;simp only[go_sem,zat,Nat.reduceSub,Int.reduceEq,Nat.reduceLT,Nat.reduceDiv,Nat.reduceAdd,Nat.reduceBEq,Nat.reduceLeDiff,reduceCtorEq,Nat.reduceEqDiff,Nat.reduceMod,capK,bij,bik,bjk,bji,bki,bkj];exact hq) ?_
 refine .seq ?_
 refine .pp zS [0,1,2] (by intro q hq;simp only[go_sem,zat,Nat.reduceSub,Int.reduceEq,Nat.reduceLT,Nat.reduceDiv,Nat.reduceAdd,Nat.reduceBEq,Nat.reduceLeDiff,reduceCtorEq,Nat.reduceEqDiff,Nat.reduceMod,capK,Tryz.tm_22,Tryz.tm_3,bij,bik,bjk,bji,bki,bkj];exact hq) ?_
 refine .seq ?_
 refine .pp zS [0,1,2] (by intro q hq;simp only[go_sem,zat,Nat.reduceSub,Int.reduceEq,Nat.reduceLT,Nat.reduceDiv,Nat.reduceAdd,Nat.reduceBEq,Nat.reduceLeDiff,reduceCtorEq,Nat.reduceEqDiff,Nat.reduceMod,capK,Tryz.tm_22,Tryz.tm_3,bij,bik,bjk,bji,bki,bkj];exact hq) ?_
 refine .seq (.seq ?_)
 refine .pp zS [0,1,2,7] (by intro q hq;simp only[go_sem,zat,Nat.reduceSub,Int.reduceEq,Nat.reduceLT,Nat.reduceDiv,Nat.reduceAdd,Nat.reduceBEq,Nat.reduceLeDiff,reduceCtorEq,Nat.reduceEqDiff,Nat.reduceMod,capK,Tryz.tm_22,Tryz.tm_3];exact hq) ?_
 refine .cond rfl rfl (fun hc=>by simp at hc) (fun hc=>?_)
 refine .skip (.seq ?_)
 refine .pp zS [0,1,2,7] (by intro q hq;simp only[go_sem,zat,Nat.reduceSub,Int.reduceEq,Nat.reduceLT,Nat.reduceDiv,Nat.reduceAdd,Nat.reduceBEq,Nat.reduceLeDiff,reduceCtorEq,Nat.reduceEqDiff,Nat.reduceMod,capK,Tryz.tm_22,Tryz.tm_3];exact hq) ?_
 refine .seq (.seq ?_)
 refine .pp zS [0,1,2,7,8] (by intro q hq;simp only[go_sem,zat,Nat.reduceSub,Int.reduceEq,Nat.reduceLT,Nat.reduceDiv,Nat.reduceAdd,Nat.reduceBEq,Nat.reduceLeDiff,reduceCtorEq,Nat.reduceEqDiff,Nat.reduceMod,capK,Tryz.tm_22,Tryz.tm_3];exact hq) ?_
 refine .cond rfl rfl (fun hc=>?_) (fun hc=>by simp at hc)
 refine .seq ?_
 refine .pp zS [0,2] (by intro q hq;simp only[go_sem,zat,Nat.reduceSub,Int.reduceEq,Nat.reduceLT,Nat.reduceDiv,Nat.reduceAdd,Nat.reduceBEq,Nat.reduceLeDiff,reduceCtorEq,Nat.reduceEqDiff,Nat.reduceMod,capK,Tryz.tm_22,Tryz.tm_3,bij,bik,bjk,bji,bki,bkj];exact hq) ?_
 refine .ret ⟨.inr rfl,retH [j,k] ?_ ?_⟩
 simp only[zmq,resL,resD,resT,go_sem,zat,Nat.reduceSub,Int.reduceEq,Nat.reduceLT,Nat.reduceDiv,Nat.reduceAdd,Nat.reduceBEq,Nat.reduceLeDiff,reduceCtorEq,Nat.reduceEqDiff,Nat.reduceMod,Tryz.f103]
 simp only[zf5,getL,effL,put,del,Nat.beq_refl,cond_true,cond_false,bij,bik,bjk,bji,bki,bkj,List.take_length]
theorem ya7m(i j k:Nat)(hij:i≠j)(hik:i≠k)(hjk:j≠k)(L:List D)(x:D)(P Q:Bool)(at' c:Nat)(hck:capK c=true)(hat:at'<L.length)(hL:L.length<1000000)(h1:L.length<=c)(h2:c<L.length+1):
  zbv Tryz.prog 103 [.ref i 1 0 L.length (some c),.int .i64 (at':Int),.ref j 1 0 1 (some 1)] [(i,.arr 3 1 P L),(j,.arr 3 1 Q [x])] (.ref k 1 0 (L.length+1) none) [(k,some (.arr 3 1 (P&&Q) (L.take at'++x::L.drop at'))),(i,none)] (k,k+1):=by
 obtain rfl:c=L.length:=by omega
 have hck2:=hck
 have bij:Nat.beq i j=false:=zbq hij
 have bik:Nat.beq i k=false:=zbq hik
 have bjk:Nat.beq j k=false:=zbq hjk
 have bji:Nat.beq j i=false:=zbq (Ne.symm hij)
 have bki:Nat.beq k i=false:=zbq (Ne.symm hik)
 have bkj:Nat.beq k j=false:=zbq (Ne.symm hjk)
 have hw:wr .i64 ((L.length:Int)+((1:Nat):Int))=((L.length+1:Nat):Int):=zj6 _ _ (by show(-9223372036854775808:Int)<=_;omega) (by show _<=(9223372036854775807:Int);omega)
 have hw2:wr .i64 (((L.length+1:Nat):Int)-(at':Int))=((L.length+1-at':Nat):Int):=by
  rw[zj6 _ _ (by show(-9223372036854775808:Int)<=_;omega) (by show _<=(9223372036854775807:Int);omega)]
  omega
 have hw3:wr .i64 ((at':Int)+((1:Nat):Int))=((at'+1:Nat):Int):=zj6 _ _ (by show(-9223372036854775808:Int)<=_;omega) (by show _<=(9223372036854775807:Int);omega)
 have ha:at'+(L.length+1-at')=L.length+1:=by omega
 have pq:(P&&Q&&P)=(P&&Q):=by cases P<;>cases Q<;>rfl
 have hm1:Nat.min 1 (L.length+1-at')=1:=by show min 1 (L.length+1-at')=1;omega
 have hm2:Nat.min (L.length-at') (L.length+1-(at'+1))=L.length-at':=by show min (L.length-at') (L.length+1-(at'+1))=L.length-at';omega
 have tk:(L.take at').length=at':=by simp;omega
 have e1:List.take at' (List.take at' L++List.replicate (L.length+1-at') (D.int .i64 0))=List.take at' L:=by
  rw[List.take_append_of_le_length (by omega),List.take_of_length_le (by omega)]
 have e2:List.drop (at'+1) (List.take at' L++List.replicate (L.length+1-at') (D.int .i64 0))=List.replicate (L.length-at') (D.int .i64 0):=by
  rw[List.drop_append,List.drop_eq_nil_of_le (by omega),tk,zas,List.drop_replicate]
  congr 1;omega
 have e3:List.take (at'+1) (List.take at' L++[x]++List.replicate (L.length-at') (D.int .i64 0))=List.take at' L++[x]:=by
  rw[List.take_append_of_le_length (by simp;omega),List.take_of_length_le (by simp;omega)]
 have e4:List.drop (at'+1+(L.length-at')) (List.take at' L++[x]++List.replicate (L.length-at') (D.int .i64 0))=[]:=List.drop_eq_nil_of_le (by simp;omega)
 have e5:List.take (L.length-at') (List.drop at' L)=List.drop at' L:=List.take_of_length_le (by simp)
 have l1:(List.take at' L++List.replicate (L.length+1-at') (D.int .i64 0)).length=L.length+1:=by simp;omega
 have l2:(List.take at' L++[x]++List.replicate (L.length-at') (D.int .i64 0)).length=L.length+1:=by simp;omega
 refine zeh Tryz.tmOk Tryz.func103 rfl (by decide) (lb rfl) (by simp) ?_
 intro hwf
 refine .seq (.plx zS hck [0,1,2] ?_)
 refine .seq (.plx zS (ai Tryz.tm_22 (ai Tryz.tm_3 hck)) [0,1,2] ?_)
 refine .seq (.plx zS (ai Tryz.tm_22 (ai Tryz.tm_3 hck)) [0,1,2] ?_)
 refine .seq (.seq (.plx zS (ai Tryz.tm_22 (ai Tryz.tm_3 hck)) [0,1,2,7] ?_))
 refine .cond rfl rfl (fun hc=>by simp at hc) (fun hc=>?_)
 refine .skip (.seq (.plx zS (ai Tryz.tm_22 (ai Tryz.tm_3 hck)) [0,1,2,7] ?_))
 refine .seq (.seq (.plx zS (ai Tryz.tm_22 (ai Tryz.tm_3 hck)) [0,1,2,7,8] ?_))
 refine .cond rfl rfl (fun hc=>by simp at hc;omega) (fun hc=>?_)
 refine .skip (.seq (.seq (.plx zS (ai Tryz.tm_22 (ai Tryz.tm_3 (ai hck hw))) [0,1,2,7,8] ?_)))
 refine .cond rfl rfl (fun hc=>?_) (fun hc=>by simp at hc;omega)
 refine .seq ?_
 refine .pp zS [0,1,2,7,8] (by intro q hq;simp only[go_sem,zat,Nat.reduceSub,Int.reduceEq,Nat.reduceLT,Nat.reduceDiv,Nat.reduceAdd,Nat.reduceBEq,Nat.reduceLeDiff,reduceCtorEq,Nat.reduceEqDiff,Nat.reduceMod,Tryz.tm_22,Tryz.tm_3,hck,hw,hw2,ha,zia,Int.sub_zero,Int.toNat_zero,Int.toNat_sub,bij,bik,bjk,bji,bki,bkj];exact hq) ?_
 refine .seq ?_
 refine .pp zS [0,1,2,7,8,9] (by intro q hq;simp only[go_sem,zat,Nat.reduceSub,Int.reduceEq,Nat.reduceLT,Nat.reduceDiv,Nat.reduceAdd,Nat.reduceBEq,Nat.reduceLeDiff,reduceCtorEq,Nat.reduceEqDiff,Nat.reduceMod,Tryz.tm_22,Tryz.tm_3,hck,hw,hw2,ha,zia,Int.sub_zero,Int.toNat_zero,Int.toNat_sub,bij,bik,bjk,bji,bki,bkj,Int.toNat_sub,hm1,e1,e2,List.take_one,List.take_succ_cons];exact hq) ?_
 refine .seq ?_
 refine .drawn Tryz.tmOk Tryz.tmMixed [0,1,2,7,8,9] (by decide+kernel) (by intro q hq;simp only[go_sem,zat,Nat.reduceSub,Int.reduceEq,Nat.reduceLT,Nat.reduceDiv,Nat.reduceAdd,Nat.reduceBEq,Nat.reduceLeDiff,reduceCtorEq,Nat.reduceEqDiff,Nat.reduceMod,Tryz.tm_22,Tryz.tm_3,hck,hw,hw2,hw3,ha,zia,capS,bij,bik,bjk,bji,bki,bkj,Int.toNat_sub,hm1,hm2,e3,e4,e5];exact hq) (zh6 (by kernel_rfl)) (by first|rfl|simp only[go_sem,Nat.reduceLeDiff]<;>rfl|(simp;done)|(simp[oneD]<;>omega)|(simp_all;done)|(simp_all[oneD]<;>omega)) (by first|exact za4 _|exact lb rfl|(dsimp only;omega)|(simp<;>omega)) ?_
 refine .seq (.plx zS (ai Tryz.tm_22 (ai Tryz.tm_3 hck)) [9] ?_)
 refine .ret ⟨.inr rfl,retH [j,k] ?_ ?_⟩
 simp only[zmq,resL,resD,resT,go_sem,zat,Nat.reduceSub,Int.reduceEq,Nat.reduceLT,Nat.reduceDiv,Nat.reduceAdd,Nat.reduceBEq,Nat.reduceLeDiff,reduceCtorEq,Nat.reduceEqDiff,Nat.reduceMod,Tryz.f103]
 simp only[zf5,getL,effL,put,del,Nat.beq_refl,cond_true,cond_false,bij,bik,bjk,bji,bki,bkj,pq,List.append_assoc,List.singleton_append,zag]
theorem ya7l(i j k:Nat)(hij:i≠j)(L:List D)(x:D)(P Q:Bool)(at' c:Nat)(hck:capK c=true)(hat:at'<L.length)(hL:L.length<1000000)(h1:L.length+1<=c):
  zbv Tryz.prog 103 [.ref i 1 0 L.length (some c),.int .i64 (at':Int),.ref j 1 0 1 (some 1)] [(i,.arr 3 1 P L),(j,.arr 3 1 Q [x])] (.ref i 1 0 (L.length+1) (some c)) [(i,some (.arr 3 1 (P&&Q) (L.take at'++x::L.drop at')))] (k,k):=by
 have bij:Nat.beq i j=false:=zbq hij
 have bji:Nat.beq j i=false:=zbq (Ne.symm hij)
 have hw:wr .i64 ((L.length:Int)+((1:Nat):Int))=((L.length+1:Nat):Int):=zj6 _ _ (by show(-9223372036854775808:Int)<=_;omega) (by show _<=(9223372036854775807:Int);omega)
 have hw3:wr .i64 ((at':Int)+((1:Nat):Int))=((at'+1:Nat):Int):=zj6 _ _ (by show(-9223372036854775808:Int)<=_;omega) (by show _<=(9223372036854775807:Int);omega)
 have hm1:Nat.min 1 (L.length+1-at')=1:=by show min 1 (L.length+1-at')=1;omega
 have hm2:Nat.min (L.length+1-at') (L.length+1-(at'+1))=L.length-at':=by show min (L.length+1-at') (L.length+1-(at'+1))=L.length-at';omega
 have hn1:L.length+1-(at'+1)=(L.length-at'-1)+1:=by omega
 have tk:(L.take at').length=at':=by simp;omega
 have tk1:(L.take (at'+1)).length=at'+1:=by simp;omega
 have e5:List.take (L.length-at') (List.drop at' L)=List.drop at' L:=List.take_of_length_le (by simp)
 have e4:List.drop (at'+1+(L.length-at')) L=[]:=List.drop_eq_nil_of_le (by omega)
 have e1:List.take at' (List.take (at'+1) L++List.drop at' L)=List.take at' L:=by
  rw[List.take_append_of_le_length (by omega),List.take_take]
  congr 1;omega
 have e2:List.drop (at'+1) (List.take (at'+1) L++List.drop at' L)=List.drop at' L:=by
  rw[List.drop_append,List.drop_eq_nil_of_le (by omega),tk1,Nat.sub_self,List.drop_zero,zas]
 refine zeh Tryz.tmOk Tryz.func103 rfl (by decide) (lb rfl) (by simp) ?_
 intro hwf
 refine .seq (.plx zS hck [0,1,2] ?_)
 refine .seq (.plx zS (ai Tryz.tm_22 (ai Tryz.tm_3 hck)) [0,1,2] ?_)
 refine .seq (.plx zS (ai Tryz.tm_22 (ai Tryz.tm_3 hck)) [0,1,2] ?_)
 refine .seq (.seq (.plx zS (ai Tryz.tm_22 (ai Tryz.tm_3 hck)) [0,1,2,7] ?_))
 refine .cond rfl rfl (fun hc=>by simp at hc) (fun hc=>?_)
 refine .skip (.seq (.plx zS (ai Tryz.tm_22 (ai Tryz.tm_3 hck)) [0,1,2,7] ?_))
 refine .seq (.seq (.plx zS (ai Tryz.tm_22 (ai Tryz.tm_3 hck)) [0,1,2,7,8] ?_))
 refine .cond rfl rfl (fun hc=>by simp at hc;omega) (fun hc=>?_)
 refine .skip (.seq (.seq (.plx zS (ai Tryz.tm_22 (ai Tryz.tm_3 (ai hck hw))) [0,1,2,7,8] ?_)))
 refine .cond rfl rfl (fun hc=>by simp at hc;omega) (fun hc=>?_)
 refine .skip (.seq ?_)
 refine .pp zS [0,1,2,7,8] (by intro q hq;simp only[go_sem,zat,Nat.reduceSub,Int.reduceEq,Nat.reduceLT,Nat.reduceDiv,Nat.reduceAdd,Nat.reduceBEq,Nat.reduceLeDiff,reduceCtorEq,Nat.reduceEqDiff,Nat.reduceMod,Tryz.tm_22,Tryz.tm_3,hck,hw,zu8,Option.isSome,Int.sub_zero,Int.toNat_zero,Nat.sub_zero,bij,bji];exact hq) ?_
 refine .seq (.seq ?_)
 refine .reg Tryz.tmOk Tryz.tmMixed [0,1,2,7] (by decide+kernel) ?_
 refine .R (dr:=false) (.inr fun _ _ _ h=>⟨nofun,h.2⟩) (by intro q hq;simp only[go_sem,zat,Nat.reduceSub,Int.reduceEq,Nat.reduceLT,Nat.reduceDiv,Nat.reduceAdd,Nat.reduceBEq,Nat.reduceLeDiff,reduceCtorEq,Nat.reduceEqDiff,Nat.reduceMod,Tryz.tm_22,Tryz.tm_3,hck,hw3,Int.toNat_sub,bij,bji];exact hq) (by first|rfl|simp only[go_sem,Nat.reduceLeDiff]<;>rfl|(simp;done)|(simp[oneD]<;>omega)|(simp_all;done)|(simp_all[oneD]<;>omega)) (by first|exact za4 _|exact lb rfl|(dsimp only;omega)|(simp<;>omega)) ?_
 refine .overs (i:=j) (j:=i) rfl rfl rfl rfl rfl ya5m ⟨1,0,0,some 1,1-1,at'+1,L.length-at'-1,some (c-(at'+1)),3,1,Q,[x],3,1,P,L,by
  show [D.ref j 1 0 1 (some 1),D.ref i 1 (at'+1) (L.length+1-(at'+1)) (some (c-(at'+1)))]=_
  rw[hn1],by simp only[getL,bij,cond_false,Nat.beq_refl,cond_true],by simp only[getL,Nat.beq_refl,cond_true],Ne.symm hij⟩ ?_
 refine .R (dr:=false) (.inr fun _ _ _ h=>⟨nofun,h.2⟩) (by intro q hq;simp only[go_sem,zat,Nat.reduceSub,Int.reduceEq,Nat.reduceLT,Nat.reduceDiv,Nat.reduceAdd,Nat.reduceBEq,Nat.reduceLeDiff,reduceCtorEq,Nat.reduceEqDiff,Nat.reduceMod,Tryz.tm_22,Tryz.tm_3,hck];exact hq) (by first|rfl|simp only[go_sem,Nat.reduceLeDiff]<;>rfl|(simp;done)|(simp[oneD]<;>omega)|(simp_all;done)|(simp_all[oneD]<;>omega)) (by first|exact za4 _|exact lb rfl|(dsimp only;omega)|(simp<;>omega)) ?_
 refine .nn ?_
 refine .cond rfl rfl (fun hc=>?_) (fun hc=>by cases hc)
 refine .seq ?_
 refine .drawn Tryz.tmOk Tryz.tmMixed [0,1,2,7] (by decide+kernel) (by intro q hq;simp only[go_sem,zat,Nat.reduceSub,Int.reduceEq,Nat.reduceLT,Nat.reduceDiv,Nat.reduceAdd,Nat.reduceBEq,Nat.reduceLeDiff,reduceCtorEq,Nat.reduceEqDiff,Nat.reduceMod,Tryz.tm_22,Tryz.tm_3,hck,hw3,Int.toNat_sub,hm2,e4,e5,bij,bji,Bool.and_self,zag];exact hq) (zh6 (by kernel_rfl)) (by first|rfl|simp only[go_sem,Nat.reduceLeDiff]<;>rfl|(simp;done)|(simp[oneD]<;>omega)|(simp_all;done)|(simp_all[oneD]<;>omega)) (by first|exact za4 _|exact lb rfl|(dsimp only;omega)|(simp<;>omega)) ?_
 refine .seq ?_
 refine .pp zS [0,1,2] (by intro q hq;simp only[go_sem,zat,Nat.reduceSub,Int.reduceEq,Nat.reduceLT,Nat.reduceDiv,Nat.reduceAdd,Nat.reduceBEq,Nat.reduceLeDiff,reduceCtorEq,Nat.reduceEqDiff,Nat.reduceMod,Tryz.tm_22,Tryz.tm_3,hck,Int.toNat_sub,hm1,e1,e2,bij,bji,List.take_succ_cons];exact hq) ?_
 refine .seq (.plx zS (ai Tryz.tm_22 (ai Tryz.tm_3 hck)) [0] ?_)
 refine .ret ⟨.inr rfl,retH [i,j] ?_ ?_⟩
 simp only[zmq,resL,resD,resT,go_sem,zat,Nat.reduceSub,Int.reduceEq,Nat.reduceLT,Nat.reduceDiv,Nat.reduceAdd,Nat.reduceBEq,Nat.reduceLeDiff,reduceCtorEq,Nat.reduceEqDiff,Nat.reduceMod,Tryz.f103]
 simp only[zf5,getL,effL,put,del,Nat.beq_refl,cond_true,cond_false,bij,bji,List.append_assoc,List.singleton_append,zag]
theorem yaa9(i j k:Nat)(hij:i≠j)(hik:i≠k)(hjk:j≠k)(L:List D)(x:D)(P Q:Bool)(at':Nat)(hat:at'<=L.length)(hL:L.length<1000000):
  zbv Tryz.prog 103 [.ref i 1 0 L.length (some uC),.int .i64 (at':Int),.ref j 1 0 1 (some 1)] [(i,.arr 3 1 P L),(j,.arr 3 1 Q [x])] (.ref k 1 0 (L.length+1) (some uC)) [(k,some (.arr 3 1 (P&&Q) (L.take at'++x::L.drop at'))),(i,none)] (k,k+1):=by
 by_cases h:at'=L.length
 subst h
 have:=ya43 i j k hij hik hjk L x P Q hL
 rw[List.take_length,List.drop_length]
 exact this
 exact zo2 (l:=L) (p:=P) (ya43 i j k hij hik hjk L x P Q hL).1 (by simp only[getL,Nat.beq_refl,cond_true]) hik (by omega)
  (fun c hc _ h2=>ya7l i j k hij L x P Q at' c hc (by omega) hL h2)
  (fun c hc h1 h2=>ya7m i j k hij hik hjk L x P Q at' c hc (by omega) hL h1 h2)
end Go.Proofs
namespace Go.Proofs
open Go.Tm Go.RowKit Go.WideShapes
set_option maxRecDepth 100000
set_option linter.unusedSimpArgs false
set_option linter.unusedVariables false
attribute [local go_sem] zfj runE runK ziy zrj aop opd zo5 opds opdO ev zu9 keep List.any natbeq Bool.false_or Bool.true_or zgc cond_true cond_false Bool.cond_false_right Bool.cond_true_left beq_true beq_false imp_self implies_true getR getL put St.app effL del nwB ztw Nat.lt_irrefl Nat.lt_add_one ztz za4 Nat.beq_refl zjr zho capS zpj zne zdi D.ids D.idsL bin zy2 zp7 binT zua Tm.part zn7 zqp oneD zql zn4 srcD zgn zo8 decide_true gval zqr D.cells zai List.map_nil List.take List.drop List.length_map List.append Int.toNat_natCast and_true true_and decide_false zak zbo zag zas Bool.and_true Bool.true_and Bool.not_false Bool.not_true ne_eq not_false_eq_true BEq.rfl List.getElem?_cons_zero List.getElem?_cons_succ List.getElem?_nil Nat.zero_add List.all_cons List.all_nil List.isEmpty_cons List.isEmpty_nil Option.getD_some Option.getD_none List.any_cons List.any_nil List.drop_succ_cons List.drop_zero unfL unf okM okML low3 zb2 true_or or_true Nat.zero_mul Nat.zero_le fpOf zo6
theorem ya5o:ya2e Tryz.prog 105:=zvq (r:=4) Tryz.func105 (by kernel_rfl) (by kernel_rfl) (by kernel_rfl) (by kernel_rfl) (Tryz.tmOk.1 35 (by decide)) rfl
theorem ya6e(i j k:Nat)(hij:i≠j)(hik:i≠k)(hjk:j≠k)(L:List D)(x:D)(P Q:Bool)(hL:L.length<1000000):
  zbv Tryz.prog 82 [.ref i 5 0 L.length (some uC),.int .i64 (L.length:Int),.ref j 5 0 1 (some 1)] [(i,.arr 75 5 P L),(j,.arr 75 5 Q [x])] (.ref k 5 0 (L.length+1) (some uC)) [(k,some (.arr 75 5 (P&&Q) (L++[x]))),(i,none)] (k,k+1):=by
 have bij:Nat.beq i j=false:=zbq hij
 have bik:Nat.beq i k=false:=zbq hik
 have bjk:Nat.beq j k=false:=zbq hjk
 have bji:Nat.beq j i=false:=zbq (Ne.symm hij)
 have bki:Nat.beq k i=false:=zbq (Ne.symm hik)
 have bkj:Nat.beq k j=false:=zbq (Ne.symm hjk)
 have n10:¬((1:Int)=0):=by omega
 have hx:(1:Nat)<=1:=za4 _
 refine zeh Tryz.tmOk Tryz.func82 rfl (by decide) (lb rfl) (by simp) ?_
 intro hwf
 refine .seq ?_
 refine .pp zS [0,1,2] (by intro q hq;simp only[go_sem,zat,Nat.reduceSub,Int.reduceEq,Nat.reduceLT,Nat.reduceDiv,Nat.reduceAdd,Nat.reduceBEq,Nat.reduceLeDiff,reduceCtorEq,Nat.reduceEqDiff,Nat.reduceMod,capK,bij,bik,bjk,bji,bki,bkj];exact hq) ?_
 refine .seq ?_
 refine .pp zS [0,1,2] (by intro q hq;simp only[go_sem,zat,Nat.reduceSub,Int.reduceEq,Nat.reduceLT,Nat.reduceDiv,Nat.reduceAdd,Nat.reduceBEq,Nat.reduceLeDiff,reduceCtorEq,Nat.reduceEqDiff,Nat.reduceMod,capK,Tryz.tm_35,Tryz.tm_3,bij,bik,bjk,bji,bki,bkj];exact hq) ?_
 refine .seq ?_
 refine .pp zS [0,1,2] (by intro q hq;simp only[go_sem,zat,Nat.reduceSub,Int.reduceEq,Nat.reduceLT,Nat.reduceDiv,Nat.reduceAdd,Nat.reduceBEq,Nat.reduceLeDiff,reduceCtorEq,Nat.reduceEqDiff,Nat.reduceMod,capK,Tryz.tm_35,Tryz.tm_3,bij,bik,bjk,bji,bki,bkj];exact hq) ?_
 refine .seq (.seq ?_)
 refine .pp zS [0,1,2,7] (by intro q hq;simp only[go_sem,zat,Nat.reduceSub,Int.reduceEq,Nat.reduceLT,Nat.reduceDiv,Nat.reduceAdd,Nat.reduceBEq,Nat.reduceLeDiff,reduceCtorEq,Nat.reduceEqDiff,Nat.reduceMod,capK,Tryz.tm_35,Tryz.tm_3];exact hq) ?_
 refine .cond rfl rfl (fun hc=>by simp at hc) (fun hc=>?_)
 refine .skip (.seq ?_)
 refine .pp zS [0,1,2,7] (by intro q hq;simp only[go_sem,zat,Nat.reduceSub,Int.reduceEq,Nat.reduceLT,Nat.reduceDiv,Nat.reduceAdd,Nat.reduceBEq,Nat.reduceLeDiff,reduceCtorEq,Nat.reduceEqDiff,Nat.reduceMod,capK,Tryz.tm_35,Tryz.tm_3];exact hq) ?_
 refine .seq (.seq ?_)
 refine .pp zS [0,1,2,7,8] (by intro q hq;simp only[go_sem,zat,Nat.reduceSub,Int.reduceEq,Nat.reduceLT,Nat.reduceDiv,Nat.reduceAdd,Nat.reduceBEq,Nat.reduceLeDiff,reduceCtorEq,Nat.reduceEqDiff,Nat.reduceMod,capK,Tryz.tm_35,Tryz.tm_3];exact hq) ?_
 refine .cond rfl rfl (fun hc=>?_) (fun hc=>by simp at hc)
 refine .seq ?_
 refine .pp zS [0,2] (by intro q hq;simp only[go_sem,zat,Nat.reduceSub,Int.reduceEq,Nat.reduceLT,Nat.reduceDiv,Nat.reduceAdd,Nat.reduceBEq,Nat.reduceLeDiff,reduceCtorEq,Nat.reduceEqDiff,Nat.reduceMod,capK,Tryz.tm_35,Tryz.tm_3,bij,bik,bjk,bji,bki,bkj];exact hq) ?_
 refine .ret ⟨.inr rfl,retH [j,k] ?_ ?_⟩
 simp only[zmq,resL,resD,resT,go_sem,zat,Nat.reduceSub,Int.reduceEq,Nat.reduceLT,Nat.reduceDiv,Nat.reduceAdd,Nat.reduceBEq,Nat.reduceLeDiff,reduceCtorEq,Nat.reduceEqDiff,Nat.reduceMod,Tryz.f82]
 simp only[zf5,getL,effL,put,del,Nat.beq_refl,cond_true,cond_false,bij,bik,bjk,bji,bki,bkj,List.take_length]
theorem yaa8(i j k:Nat)(hij:i≠j)(hik:i≠k)(hjk:j≠k)(L:List D)(x:D)(P Q:Bool)(at' c:Nat)(hck:capK c=true)(hat:at'<L.length)(hL:L.length<1000000)(h1:L.length<=c)(h2:c<L.length+1):
  zbv Tryz.prog 82 [.ref i 5 0 L.length (some c),.int .i64 (at':Int),.ref j 5 0 1 (some 1)] [(i,.arr 75 5 P L),(j,.arr 75 5 Q [x])] (.ref k 5 0 (L.length+1) none) [(k,some (.arr 75 5 (P&&Q) (L.take at'++x::L.drop at'))),(i,none)] (k,k+1):=by
 obtain rfl:c=L.length:=by omega
 have hck2:=hck
 have bij:Nat.beq i j=false:=zbq hij
 have bik:Nat.beq i k=false:=zbq hik
 have bjk:Nat.beq j k=false:=zbq hjk
 have bji:Nat.beq j i=false:=zbq (Ne.symm hij)
 have bki:Nat.beq k i=false:=zbq (Ne.symm hik)
 have bkj:Nat.beq k j=false:=zbq (Ne.symm hjk)
 have hw:wr .i64 ((L.length:Int)+((1:Nat):Int))=((L.length+1:Nat):Int):=zj6 _ _ (by show(-9223372036854775808:Int)<=_;omega) (by show _<=(9223372036854775807:Int);omega)
 have hw2:wr .i64 (((L.length+1:Nat):Int)-(at':Int))=((L.length+1-at':Nat):Int):=by
  rw[zj6 _ _ (by show(-9223372036854775808:Int)<=_;omega) (by show _<=(9223372036854775807:Int);omega)]
  omega
 have hw3:wr .i64 ((at':Int)+((1:Nat):Int))=((at'+1:Nat):Int):=zj6 _ _ (by show(-9223372036854775808:Int)<=_;omega) (by show _<=(9223372036854775807:Int);omega)
 have ha:at'+(L.length+1-at')=L.length+1:=by omega
 have pq:(P&&Q&&P)=(P&&Q):=by cases P<;>cases Q<;>rfl
 have hm1:Nat.min 1 (L.length+1-at')=1:=by show min 1 (L.length+1-at')=1;omega
 have hm2:Nat.min (L.length-at') (L.length+1-(at'+1))=L.length-at':=by show min (L.length-at') (L.length+1-(at'+1))=L.length-at';omega
 have tk:(L.take at').length=at':=by simp;omega
 have e1:List.take at' (List.take at' L++List.replicate (L.length+1-at') (D.agg [D.int .i64 0,D.int .i64 0,D.int .i64 0,D.int .i64 0,D.str []]))=List.take at' L:=by
  rw[List.take_append_of_le_length (by omega),List.take_of_length_le (by omega)]
 have e2:List.drop (at'+1) (List.take at' L++List.replicate (L.length+1-at') (D.agg [D.int .i64 0,D.int .i64 0,D.int .i64 0,D.int .i64 0,D.str []]))=List.replicate (L.length-at') (D.agg [D.int .i64 0,D.int .i64 0,D.int .i64 0,D.int .i64 0,D.str []]):=by
  rw[List.drop_append,List.drop_eq_nil_of_le (by omega),tk,zas,List.drop_replicate]
  congr 1;omega
 have e3:List.take (at'+1) (List.take at' L++[x]++List.replicate (L.length-at') (D.agg [D.int .i64 0,D.int .i64 0,D.int .i64 0,D.int .i64 0,D.str []]))=List.take at' L++[x]:=by
  rw[List.take_append_of_le_length (by simp;omega),List.take_of_length_le (by simp;omega)]
 have e4:List.drop (at'+1+(L.length-at')) (List.take at' L++[x]++List.replicate (L.length-at') (D.agg [D.int .i64 0,D.int .i64 0,D.int .i64 0,D.int .i64 0,D.str []]))=[]:=List.drop_eq_nil_of_le (by simp;omega)
 have e5:List.take (L.length-at') (List.drop at' L)=List.drop at' L:=List.take_of_length_le (by simp)
 have l1:(List.take at' L++List.replicate (L.length+1-at') (D.agg [D.int .i64 0,D.int .i64 0,D.int .i64 0,D.int .i64 0,D.str []])).length=L.length+1:=by simp;omega
 have l2:(List.take at' L++[x]++List.replicate (L.length-at') (D.agg [D.int .i64 0,D.int .i64 0,D.int .i64 0,D.int .i64 0,D.str []])).length=L.length+1:=by simp;omega
 refine zeh Tryz.tmOk Tryz.func82 rfl (by decide) (lb rfl) (by simp) ?_
 intro hwf
 refine .seq (.plx zS hck [0,1,2] ?_)
 refine .seq (.plx zS (ai Tryz.tm_35 (ai Tryz.tm_3 hck)) [0,1,2] ?_)
 refine .seq (.plx zS (ai Tryz.tm_35 (ai Tryz.tm_3 hck)) [0,1,2] ?_)
 refine .seq (.seq (.plx zS (ai Tryz.tm_35 (ai Tryz.tm_3 hck)) [0,1,2,7] ?_))
 refine .cond rfl rfl (fun hc=>by simp at hc) (fun hc=>?_)
 refine .skip (.seq (.plx zS (ai Tryz.tm_35 (ai Tryz.tm_3 hck)) [0,1,2,7] ?_))
 refine .seq (.seq (.plx zS (ai Tryz.tm_35 (ai Tryz.tm_3 hck)) [0,1,2,7,8] ?_))
 refine .cond rfl rfl (fun hc=>by simp at hc;omega) (fun hc=>?_)
 refine .skip (.seq (.seq (.plx zS (ai Tryz.tm_35 (ai Tryz.tm_3 (ai hck hw))) [0,1,2,7,8] ?_)))
 refine .cond rfl rfl (fun hc=>?_) (fun hc=>by simp at hc;omega)
 refine .seq ?_
 refine .pp zS [0,1,2,7,8] (by intro q hq;simp only[go_sem,zat,Nat.reduceSub,Int.reduceEq,Nat.reduceLT,Nat.reduceDiv,Nat.reduceAdd,Nat.reduceBEq,Nat.reduceLeDiff,reduceCtorEq,Nat.reduceEqDiff,Nat.reduceMod,Tryz.tm_35,Tryz.tm_3,hck,hw,hw2,ha,zia,Int.sub_zero,Int.toNat_zero,Int.toNat_sub,bij,bik,bjk,bji,bki,bkj];exact hq) ?_
 refine .seq ?_
 refine .pp zS [0,1,2,7,8,9] (by intro q hq;simp only[go_sem,zat,Nat.reduceSub,Int.reduceEq,Nat.reduceLT,Nat.reduceDiv,Nat.reduceAdd,Nat.reduceBEq,Nat.reduceLeDiff,reduceCtorEq,Nat.reduceEqDiff,Nat.reduceMod,Tryz.tm_35,Tryz.tm_3,hck,hw,hw2,ha,zia,Int.sub_zero,Int.toNat_zero,Int.toNat_sub,bij,bik,bjk,bji,bki,bkj,Int.toNat_sub,hm1,e1,e2,List.take_one,List.take_succ_cons];exact hq) ?_
 refine .seq ?_
 refine .drawn Tryz.tmOk Tryz.tmMixed [0,1,2,7,8,9] (by decide+kernel) (by intro q hq;simp only[go_sem,zat,Nat.reduceSub,Int.reduceEq,Nat.reduceLT,Nat.reduceDiv,Nat.reduceAdd,Nat.reduceBEq,Nat.reduceLeDiff,reduceCtorEq,Nat.reduceEqDiff,Nat.reduceMod,Tryz.tm_35,Tryz.tm_3,hck,hw,hw2,hw3,ha,zia,capS,bij,bik,bjk,bji,bki,bkj,Int.toNat_sub,hm1,hm2,e3,e4,e5];exact hq) (zh6 (by kernel_rfl)) (by first|rfl|simp only[go_sem,Nat.reduceLeDiff]<;>rfl|(simp;done)|(simp[oneD]<;>omega)|(simp_all;done)|(simp_all[oneD]<;>omega)) (by first|exact za4 _|exact lb rfl|(dsimp only;omega)|(simp<;>omega)) ?_
 refine .seq (.plx zS (ai Tryz.tm_35 (ai Tryz.tm_3 hck)) [9] ?_)
 refine .ret ⟨.inr rfl,retH [j,k] ?_ ?_⟩
 simp only[zmq,resL,resD,resT,go_sem,zat,Nat.reduceSub,Int.reduceEq,Nat.reduceLT,Nat.reduceDiv,Nat.reduceAdd,Nat.reduceBEq,Nat.reduceLeDiff,reduceCtorEq,Nat.reduceEqDiff,Nat.reduceMod,Tryz.f82]
 simp only[zf5,getL,effL,put,del,Nat.beq_refl,cond_true,cond_false,bij,bik,bjk,bji,bki,bkj,pq,List.append_assoc,List.singleton_append,zag]
theorem yaa7(i j k:Nat)(hij:i≠j)(L:List D)(x:D)(P Q:Bool)(at' c:Nat)(hck:capK c=true)(hat:at'<L.length)(hL:L.length<1000000)(h1:L.length+1<=c):
  zbv Tryz.prog 82 [.ref i 5 0 L.length (some c),.int .i64 (at':Int),.ref j 5 0 1 (some 1)] [(i,.arr 75 5 P L),(j,.arr 75 5 Q [x])] (.ref i 5 0 (L.length+1) (some c)) [(i,some (.arr 75 5 (P&&Q) (L.take at'++x::L.drop at')))] (k,k):=by
 have bij:Nat.beq i j=false:=zbq hij
 have bji:Nat.beq j i=false:=zbq (Ne.symm hij)
 have hw:wr .i64 ((L.length:Int)+((1:Nat):Int))=((L.length+1:Nat):Int):=zj6 _ _ (by show(-9223372036854775808:Int)<=_;omega) (by show _<=(9223372036854775807:Int);omega)
 have hw3:wr .i64 ((at':Int)+((1:Nat):Int))=((at'+1:Nat):Int):=zj6 _ _ (by show(-9223372036854775808:Int)<=_;omega) (by show _<=(9223372036854775807:Int);omega)
 have hm1:Nat.min 1 (L.length+1-at')=1:=by show min 1 (L.length+1-at')=1;omega
 have hm2:Nat.min (L.length+1-at') (L.length+1-(at'+1))=L.length-at':=by show min (L.length+1-at') (L.length+1-(at'+1))=L.length-at';omega
 have hn1:L.length+1-(at'+1)=(L.length-at'-1)+1:=by omega
 have tk:(L.take at').length=at':=by simp;omega
 have tk1:(L.take (at'+1)).length=at'+1:=by simp;omega
 have e5:List.take (L.length-at') (List.drop at' L)=List.drop at' L:=List.take_of_length_le (by simp)
 have e4:List.drop (at'+1+(L.length-at')) L=[]:=List.drop_eq_nil_of_le (by omega)
 have e1:List.take at' (List.take (at'+1) L++List.drop at' L)=List.take at' L:=by
  rw[List.take_append_of_le_length (by omega),List.take_take]
  congr 1;omega
 have e2:List.drop (at'+1) (List.take (at'+1) L++List.drop at' L)=List.drop at' L:=by
  rw[List.drop_append,List.drop_eq_nil_of_le (by omega),tk1,Nat.sub_self,List.drop_zero,zas]
 refine zeh Tryz.tmOk Tryz.func82 rfl (by decide) (lb rfl) (by simp) ?_
 intro hwf
 refine .seq (.plx zS hck [0,1,2] ?_)
 refine .seq (.plx zS (ai Tryz.tm_35 (ai Tryz.tm_3 hck)) [0,1,2] ?_)
 refine .seq (.plx zS (ai Tryz.tm_35 (ai Tryz.tm_3 hck)) [0,1,2] ?_)
 refine .seq (.seq (.plx zS (ai Tryz.tm_35 (ai Tryz.tm_3 hck)) [0,1,2,7] ?_))
 refine .cond rfl rfl (fun hc=>by simp at hc) (fun hc=>?_)
 refine .skip (.seq (.plx zS (ai Tryz.tm_35 (ai Tryz.tm_3 hck)) [0,1,2,7] ?_))
 refine .seq (.seq (.plx zS (ai Tryz.tm_35 (ai Tryz.tm_3 hck)) [0,1,2,7,8] ?_))
 refine .cond rfl rfl (fun hc=>by simp at hc;omega) (fun hc=>?_)
 refine .skip (.seq (.seq (.plx zS (ai Tryz.tm_35 (ai Tryz.tm_3 (ai hck hw))) [0,1,2,7,8] ?_)))
 refine .cond rfl rfl (fun hc=>by simp at hc;omega) (fun hc=>?_)
 refine .skip (.seq ?_)
 refine .pp zS [0,1,2,7,8] (by intro q hq;simp only[go_sem,zat,Nat.reduceSub,Int.reduceEq,Nat.reduceLT,Nat.reduceDiv,Nat.reduceAdd,Nat.reduceBEq,Nat.reduceLeDiff,reduceCtorEq,Nat.reduceEqDiff,Nat.reduceMod,Tryz.tm_35,Tryz.tm_3,hck,hw,zu8,Option.isSome,Int.sub_zero,Int.toNat_zero,Nat.sub_zero,bij,bji];exact hq) ?_
 refine .seq (.seq ?_)
 refine .reg Tryz.tmOk Tryz.tmMixed [0,1,2,7] (by decide+kernel) ?_
 refine .R (dr:=false) (.inr fun _ _ _ h=>⟨nofun,h.2⟩) (by intro q hq;simp only[go_sem,zat,Nat.reduceSub,Int.reduceEq,Nat.reduceLT,Nat.reduceDiv,Nat.reduceAdd,Nat.reduceBEq,Nat.reduceLeDiff,reduceCtorEq,Nat.reduceEqDiff,Nat.reduceMod,Tryz.tm_35,Tryz.tm_3,hck,hw3,Int.toNat_sub,bij,bji];exact hq) (by first|rfl|simp only[go_sem,Nat.reduceLeDiff]<;>rfl|(simp;done)|(simp[oneD]<;>omega)|(simp_all;done)|(simp_all[oneD]<;>omega)) (by first|exact za4 _|exact lb rfl|(dsimp only;omega)|(simp<;>omega)) ?_
 refine .overs (i:=j) (j:=i) rfl rfl rfl rfl rfl ya5o ⟨5,0,0,some 1,5-1,at'+1,L.length-at'-1,some (c-(at'+1)),75,5,Q,[x],75,5,P,L,by
  show [D.ref j 5 0 1 (some 1),D.ref i 5 (at'+1) (L.length+1-(at'+1)) (some (c-(at'+1)))]=_
  rw[hn1],by simp only[getL,bij,cond_false,Nat.beq_refl,cond_true],by simp only[getL,Nat.beq_refl,cond_true],Ne.symm hij⟩ ?_
 refine .R (dr:=false) (.inr fun _ _ _ h=>⟨nofun,h.2⟩) (by intro q hq;simp only[go_sem,zat,Nat.reduceSub,Int.reduceEq,Nat.reduceLT,Nat.reduceDiv,Nat.reduceAdd,Nat.reduceBEq,Nat.reduceLeDiff,reduceCtorEq,Nat.reduceEqDiff,Nat.reduceMod,Tryz.tm_35,Tryz.tm_3,hck];exact hq) (by first|rfl|simp only[go_sem,Nat.reduceLeDiff]<;>rfl|(simp;done)|(simp[oneD]<;>omega)|(simp_all;done)|(simp_all[oneD]<;>omega)) (by first|exact za4 _|exact lb rfl|(dsimp only;omega)|(simp<;>omega)) ?_
 refine .nn ?_
 refine .cond rfl rfl (fun hc=>?_) (fun hc=>by cases hc)
 refine .seq ?_
 refine .drawn Tryz.tmOk Tryz.tmMixed [0,1,2,7] (by decide+kernel) (by intro q hq;simp only[go_sem,zat,Nat.reduceSub,Int.reduceEq,Nat.reduceLT,Nat.reduceDiv,Nat.reduceAdd,Nat.reduceBEq,Nat.reduceLeDiff,reduceCtorEq,Nat.reduceEqDiff,Nat.reduceMod,Tryz.tm_35,Tryz.tm_3,hck,hw3,Int.toNat_sub,hm2,e4,e5,bij,bji,Bool.and_self,zag];exact hq) (zh6 (by kernel_rfl)) (by first|rfl|simp only[go_sem,Nat.reduceLeDiff]<;>rfl|(simp;done)|(simp[oneD]<;>omega)|(simp_all;done)|(simp_all[oneD]<;>omega)) (by first|exact za4 _|exact lb rfl|(dsimp only;omega)|(simp<;>omega)) ?_
 refine .seq ?_
 refine .pp zS [0,1,2] (by intro q hq;simp only[go_sem,zat,Nat.reduceSub,Int.reduceEq,Nat.reduceLT,Nat.reduceDiv,Nat.reduceAdd,Nat.reduceBEq,Nat.reduceLeDiff,reduceCtorEq,Nat.reduceEqDiff,Nat.reduceMod,Tryz.tm_35,Tryz.tm_3,hck,Int.toNat_sub,hm1,e1,e2,bij,bji,List.take_succ_cons];exact hq) ?_
 refine .seq (.plx zS (ai Tryz.tm_35 (ai Tryz.tm_3 hck)) [0] ?_)
 refine .ret ⟨.inr rfl,retH [i,j] ?_ ?_⟩
 simp only[zmq,resL,resD,resT,go_sem,zat,Nat.reduceSub,Int.reduceEq,Nat.reduceLT,Nat.reduceDiv,Nat.reduceAdd,Nat.reduceBEq,Nat.reduceLeDiff,reduceCtorEq,Nat.reduceEqDiff,Nat.reduceMod,Tryz.f82]
 simp only[zf5,getL,effL,put,del,Nat.beq_refl,cond_true,cond_false,bij,bji,List.append_assoc,List.singleton_append,zag]
theorem yaax(i j k:Nat)(hij:i≠j)(hik:i≠k)(hjk:j≠k)(L:List D)(x:D)(P Q:Bool)(at':Nat)(hat:at'<=L.length)(hL:L.length<1000000):
  zbv Tryz.prog 82 [.ref i 5 0 L.length (some uC),.int .i64 (at':Int),.ref j 5 0 1 (some 1)] [(i,.arr 75 5 P L),(j,.arr 75 5 Q [x])] (.ref k 5 0 (L.length+1) (some uC)) [(k,some (.arr 75 5 (P&&Q) (L.take at'++x::L.drop at'))),(i,none)] (k,k+1):=by
 by_cases h:at'=L.length
 subst h
 have:=ya6e i j k hij hik hjk L x P Q hL
 rw[List.take_length,List.drop_length]
 exact this
 exact zo2 (l:=L) (p:=P) (ya6e i j k hij hik hjk L x P Q hL).1 (by simp only[getL,Nat.beq_refl,cond_true]) hik (by omega)
  (fun c hc _ h2=>yaa7 i j k hij L x P Q at' c hc (by omega) hL h2)
  (fun c hc h1 h2=>yaa8 i j k hij hik hjk L x P Q at' c hc (by omega) hL h1 h2)
end Go.Proofs
namespace Go.Proofs
open Go.Tm Go.RowKit Go.WideShapes
set_option maxRecDepth 100000
set_option linter.unusedSimpArgs false
set_option linter.unusedVariables false
attribute [local go_sem] zfj runE runK ziy zrj aop opd zo5 opds opdO ev zu9 keep List.any natbeq Bool.false_or Bool.true_or zgc cond_true cond_false Bool.cond_false_right Bool.cond_true_left beq_true beq_false imp_self implies_true getR getL put St.app effL del nwB ztw Nat.lt_irrefl Nat.lt_add_one ztz za4 Nat.beq_refl zjr capS zpj zne zdi D.ids D.idsL bin zy2 zp7 binT zua Tm.part zn7 zqp oneD zql zn4 srcD zgn zo8 decide_true gval zqr D.cells zai List.map_nil List.take List.drop List.length_map List.append Int.toNat_natCast and_true true_and decide_false zak zbo zag zas Bool.and_true Bool.true_and Bool.not_false Bool.not_true ne_eq not_false_eq_true BEq.rfl List.getElem?_cons_zero List.getElem?_cons_succ List.getElem?_nil Nat.zero_add List.all_cons List.all_nil List.isEmpty_cons List.isEmpty_nil Option.getD_some Option.getD_none List.any_cons List.any_nil List.drop_succ_cons List.drop_zero unfL unf okM okML low3 zb2 true_or or_true Nat.zero_mul Nat.zero_le fpOf zo6
theorem yaae(i k:Nat)(L:List D)(P:Bool)(at' c:Nat)(hck:capK c=true)(hat:at'<L.length)(hL:L.length<1000000)(h1:L.length<=c):
  zbv Tryz.prog 78 [.ref i 5 0 L.length (some c),.int .i64 (at':Int),.int .i64 ((at'+1:Nat):Int)] [(i,.arr 75 5 P L)] (.ref i 5 0 (L.length-1) (some c)) [(i,some (.arr 75 5 P (L.take at'++L.drop (at'+1))))] (k,k):=by
 have e5:List.take (L.length-(at'+1)) (List.drop (at'+1) L)=List.drop (at'+1) L:=List.take_of_length_le (by simp)
 have hl:at'+(L.drop (at'+1)).length=L.length-1:=by simp;omega
 have hm:Nat.blt at' L.length=true:=zap hat
 have hcL:L.length-1<=c:=by omega
 have hm2:at'<L.length:=hat
 have hne:¬((at':Int)=((at'+1:Nat):Int)):=by omega
 have ha:Nat.beq at' (at'+1)=false:=zbq (by omega)
 have l1:(L.take at'++L.drop (at'+1)).length=L.length-1:=by simp;omega
 have l2:(L.take at'++L.drop (at'+1)++L.drop (L.length-1)).length=L.length:=by simp;omega
 have t1:List.take (L.length-1) (L.take at'++L.drop (at'+1)++L.drop (L.length-1))=L.take at'++L.drop (at'+1):=by
  rw[List.take_append_of_le_length (by omega),List.take_of_length_le (by omega)]
 have t2:∀R S:List D,List.take (L.length-1) (L.take at'++L.drop (at'+1)++R++S)=L.take at'++L.drop (at'+1):=fun R S=>by
  rw[List.append_assoc _ R S,List.take_append_of_le_length (by omega),List.take_of_length_le (by omega)]
 have q1:Int.toNat ((L.length:Int)-((L.length-1:Nat):Int))=1:=by omega
 have q2:Int.toNat ((L.length-1:Nat):Int)=L.length-1:=by omega
 have q3:Int.toNat (((L.length:Int))-((at'+1:Nat):Int))=L.length-(at'+1):=by omega
 refine zeh Tryz.tmOk Tryz.func78 rfl (by decide) (lb rfl) (by simp) ?_
 intro hwf
 refine .seq (.plx zS hck [0,1,2] ?_)
 refine .seq ?_
 refine .pp zS [0,1,2] (by intro q hq;simp only[go_sem,zat,Nat.reduceSub,Int.reduceEq,Nat.reduceLT,Nat.reduceDiv,Nat.reduceAdd,Nat.reduceBEq,Nat.reduceLeDiff,reduceCtorEq,Nat.reduceEqDiff,Nat.reduceMod,Tryz.tm_35,Tryz.tm_3,hck,zld,opdO];exact hq) ?_
 refine .seq (.seq (.plx zS (ai Tryz.tm_35 (ai Tryz.tm_3 hck)) [0,1,2] ?_))
 refine .cond rfl rfl (fun hc=>by simp at hc;omega) (fun hc=>?_)
 refine .skip (.seq (.plx zS (ai Tryz.tm_35 (ai Tryz.tm_3 hck)) [0,1,2] ?_))
 refine .seq ?_
 refine .drawn Tryz.tmOk Tryz.tmMixed [0,1,2,7] (by decide+kernel) (by intro q hq;simp only[go_sem,zat,Nat.reduceSub,Int.reduceEq,Nat.reduceLT,Nat.reduceDiv,Nat.reduceAdd,Nat.reduceBEq,Nat.reduceLeDiff,reduceCtorEq,Nat.reduceEqDiff,Nat.reduceMod,Tryz.tm_35,Tryz.tm_3,hck,hm2,hcL,e5,q3,hl,Bool.and_self,Int.sub_zero,Int.toNat_zero,Nat.sub_zero,zho];exact hq) (zh6 (by kernel_rfl)) (by first|rfl|simp only[go_sem,Nat.reduceLeDiff]<;>rfl|(simp;done)|(simp[oneD]<;>omega)|(simp_all;done)|(simp_all[oneD]<;>omega)) (by first|exact za4 _|exact lb rfl|(dsimp only;omega)|(simp<;>omega)) ?_
 refine .seq ?_
 refine .pp zS [0,7] (by intro q hq;simp only[go_sem,zat,Nat.reduceSub,Int.reduceEq,Nat.reduceLT,Nat.reduceDiv,Nat.reduceAdd,Nat.reduceBEq,Nat.reduceLeDiff,reduceCtorEq,Nat.reduceEqDiff,Nat.reduceMod,Tryz.tm_35,Tryz.tm_3,hck,zu8,Option.isSome,q1,q2,t1,l2,Nat.zero_add];exact hq) ?_
 refine .goes (.pre i (L.length-1) _ (by simp only[getL,Nat.beq_refl,cond_true];rfl) .refl) ?_
 simp only[put,Nat.beq_refl,cond_true,t2]
 refine .seq (.plx zS (ai Tryz.tm_35 (ai Tryz.tm_3 hck)) [0] ?_)
 refine .ret ⟨.inr rfl,retH [i] ?_ ?_⟩
 simp only[zmq,resL,resD,resT,go_sem,zat,Nat.reduceSub,Int.reduceEq,Nat.reduceLT,Nat.reduceDiv,Nat.reduceAdd,Nat.reduceBEq,Nat.reduceLeDiff,reduceCtorEq,Nat.reduceEqDiff,Nat.reduceMod,Tryz.f78]
 simp only[zf5,getL,effL,put,del,Nat.beq_refl,cond_true,cond_false,List.append_assoc,List.singleton_append,zag]
theorem yab1(i k:Nat)(hik:i≠k)(L:List D)(P:Bool)(at':Nat)(hat:at'<L.length)(hL:L.length<1000000):
  zbv Tryz.prog 78 [.ref i 5 0 L.length (some uC),.int .i64 (at':Int),.int .i64 ((at'+1:Nat):Int)] [(i,.arr 75 5 P L)] (.ref k 5 0 (L.length-1) (some uC)) [(k,some (.arr 75 5 P (L.take at'++L.drop (at'+1)))),(i,none)] (k,k+1):=by
 exact zo2 (l:=L) (p:=P) ⟨Tryz.f78,Tryz.func78,by decide,rfl⟩ (by simp only[getL,Nat.beq_refl,cond_true]) hik (.inr (by omega))
   (fun c hc h1 _=>yaae i k L P at' c hc hat hL h1)
   (fun c hc h1 h2=>by omega)
end Go.Proofs
namespace Go.Proofs
open Go.Tm
structure TPromise where
 Node:Int
 Ballot:Int
 Value:List UInt8
 deriving Inhabited,DecidableEq
structure TAttempt where
 Phase:Int
 Ballot:Int
 Members:List Int
 Wish:List UInt8
 Value:List UInt8
 Promises:List TPromise
 Accepted:List Int
 deriving Inhabited,DecidableEq
structure TRecord where
 Kind:Int
 Group:Int
 Slot:Int
 Ballot:Int
 Value:List UInt8
 deriving Inhabited,DecidableEq
structure TMessage where
 Id:Int
 Groups:List Int
 Topic:Int
 Key:List UInt8
 Body:List UInt8
 deriving Inhabited,DecidableEq
structure TCommand where
 Kind:Int
 Message:TMessage
 Id:Int
 Time:Int
 Members:List Int
 Topic:Int
 Who:Int
 N:Int
 deriving Inhabited,DecidableEq
def TPromise.d(x:TPromise):D:=.agg [.int .i64 x.Node,.int .i64 x.Ballot,.str x.Value]
theorem zmc:Pl TPromise.d:=⟨fun _=>rfl,fun _=>rfl,fun q h _=>by first|rfl|simp[TPromise.d,okM,okML,h]⟩
theorem zxa(l:List TPromise):mkML 1 (l.map TPromise.d)=l.map TPromise.d:=zjy 1 (fun _=>rfl) l
theorem zgd:Pl0 TPromise.d:=⟨zmc,fun _ _=>rfl⟩
def TAttempt.d(x:TAttempt):D:=.agg [.int .u8 x.Phase,.int .i64 x.Ballot,.imm 1 (x.Members.map (D.int .i64)) 4,.str x.Wish,.str x.Value,.imm 3 (x.Promises.map TPromise.d) 4,.imm 1 (x.Accepted.map (D.int .i64)) 4]
def TAttempt.n(x:TAttempt):D:=.agg [.int .u8 x.Phase,.int .i64 x.Ballot,.imm 1 (x.Members.map (D.int .i64)) 13,.str x.Wish,.str x.Value,.imm 3 (x.Promises.map TPromise.d) 13,.imm 1 (x.Accepted.map (D.int .i64)) 13]
def TRecord.d(x:TRecord):D:=.agg [.int .u8 x.Kind,.int .i64 x.Group,.int .i64 x.Slot,.int .i64 x.Ballot,.str x.Value]
theorem zej:Pl TRecord.d:=⟨fun _=>rfl,fun _=>rfl,fun q h _=>by first|rfl|simp[TRecord.d,okM,okML,h]⟩
theorem zyu(l:List TRecord):mkML 1 (l.map TRecord.d)=l.map TRecord.d:=zjy 1 (fun _=>rfl) l
theorem zsq:Pl0 TRecord.d:=⟨zej,fun _ _=>rfl⟩
def TMessage.d(x:TMessage):D:=.agg [.int .i64 x.Id,.imm 1 (x.Groups.map (D.int .i64)) 4,.int .i64 x.Topic,.str x.Key,.str x.Body]
def TMessage.n(x:TMessage):D:=.agg [.int .i64 x.Id,.imm 1 (x.Groups.map (D.int .i64)) 13,.int .i64 x.Topic,.str x.Key,.str x.Body]
def TCommand.d(x:TCommand):D:=.agg [.int .u8 x.Kind,.int .i64 x.Message.Id,.imm 1 (x.Message.Groups.map (D.int .i64)) 4,.int .i64 x.Message.Topic,.str x.Message.Key,.str x.Message.Body,.int .i64 x.Id,.int .i64 x.Time,.imm 1 (x.Members.map (D.int .i64)) 4,.int .i64 x.Topic,.int .i64 x.Who,.int .i64 x.N]
def TCommand.n(x:TCommand):D:=.agg [.int .u8 x.Kind,.int .i64 x.Message.Id,.imm 1 (x.Message.Groups.map (D.int .i64)) 13,.int .i64 x.Message.Topic,.str x.Message.Key,.str x.Message.Body,.int .i64 x.Id,.int .i64 x.Time,.imm 1 (x.Members.map (D.int .i64)) 13,.int .i64 x.Topic,.int .i64 x.Who,.int .i64 x.N]
theorem zx6:PlN TCommand.n TCommand.d:=⟨fun _=>rfl,fun _=>rfl,fun _=>by first|rfl|simp[TCommand.n,okM,okML,low3],fun _=>by first|rfl|simp[TCommand.n,okM,okML,new1]⟩
structure Tcommand_reader where
 fB:List Int
 fOk:Bool
 deriving Inhabited,DecidableEq
def Tcommand_reader.d(x:Tcommand_reader):D:=.agg [.imm 1 (x.fB.map (D.int .u8)) 4,.bool x.fOk]
def Tcommand_reader.n(x:Tcommand_reader):D:=.agg [.imm 1 (x.fB.map (D.int .u8)) 13,.bool x.fOk]
structure TGroup where
 Roster:List Int
 Members:List Int
 deriving Inhabited,DecidableEq
structure TVote where
 Promised:Int
 Ballot:Int
 Value:List UInt8
 deriving Inhabited,DecidableEq
structure TSeen where
 Group:Int
 Slot:Int
 Vote:TVote
 deriving Inhabited,DecidableEq
structure TSeat where
 Me:Int
 Number:Int
 Group:TGroup
 Log:List (List UInt8)
 Votes:List TSeen
 Try:TAttempt
 Wishes:List (List UInt8)
 Heard:Int
 deriving Inhabited,DecidableEq
structure TMail where
 From:Int
 To:Int
 Kind:Int
 Group:Int
 Slot:Int
 Ballot:Int
 Prior:Int
 Value:List UInt8
 Id:Int
 Time:Int
 deriving Inhabited,DecidableEq
structure Tseat_seat where
 Seat:TSeat
 fRecs:List TRecord
 fMail:List TMail
 deriving Inhabited,DecidableEq
def TGroup.d(x:TGroup):D:=.agg [.imm 1 (x.Roster.map (D.int .i64)) 4,.imm 1 (x.Members.map (D.int .i64)) 4]
def TGroup.n(x:TGroup):D:=.agg [.imm 1 (x.Roster.map (D.int .i64)) 13,.imm 1 (x.Members.map (D.int .i64)) 13]
def TVote.d(x:TVote):D:=.agg [.int .i64 x.Promised,.int .i64 x.Ballot,.str x.Value]
theorem ya3u(l:List TVote):mkML 1 (l.map TVote.d)=l.map TVote.d:=zjy 1 (fun _=>rfl) l
def TSeen.d(x:TSeen):D:=.agg [.int .i64 x.Group,.int .i64 x.Slot,.int .i64 x.Vote.Promised,.int .i64 x.Vote.Ballot,.str x.Vote.Value]
theorem zh1:Pl TSeen.d:=⟨fun _=>rfl,fun _=>rfl,fun q h _=>by first|rfl|simp[TSeen.d,okM,okML,h]⟩
theorem ya3v(l:List TSeen):mkML 1 (l.map TSeen.d)=l.map TSeen.d:=zjy 1 (fun _=>rfl) l
theorem zh7:Pl0 TSeen.d:=⟨zh1,fun _ _=>rfl⟩
def TSeat.d(x:TSeat):D:=.agg [.int .i64 x.Me,.int .i64 x.Number,.imm 1 (x.Group.Roster.map (D.int .i64)) 4,.imm 1 (x.Group.Members.map (D.int .i64)) 4,.imm 1 (x.Log.map D.str) 4,.imm 5 (x.Votes.map TSeen.d) 4,.int .u8 x.Try.Phase,.int .i64 x.Try.Ballot,.imm 1 (x.Try.Members.map (D.int .i64)) 4,.str x.Try.Wish,.str x.Try.Value,.imm 3 (x.Try.Promises.map TPromise.d) 4,.imm 1 (x.Try.Accepted.map (D.int .i64)) 4,.imm 1 (x.Wishes.map D.str) 4,.int .i64 x.Heard]
def TSeat.n(x:TSeat):D:=.agg [.int .i64 x.Me,.int .i64 x.Number,.imm 1 (x.Group.Roster.map (D.int .i64)) 13,.imm 1 (x.Group.Members.map (D.int .i64)) 13,.imm 1 (x.Log.map D.str) 13,.imm 5 (x.Votes.map TSeen.d) 13,.int .u8 x.Try.Phase,.int .i64 x.Try.Ballot,.imm 1 (x.Try.Members.map (D.int .i64)) 13,.str x.Try.Wish,.str x.Try.Value,.imm 3 (x.Try.Promises.map TPromise.d) 13,.imm 1 (x.Try.Accepted.map (D.int .i64)) 13,.imm 1 (x.Wishes.map D.str) 13,.int .i64 x.Heard]
theorem zx5:PlN TSeat.n TSeat.d:=⟨fun _=>rfl,fun _=>rfl,fun _=>by first|rfl|simp[TSeat.n,okM,okML,low3],fun _=>by first|rfl|simp[TSeat.n,okM,okML,new1]⟩
def TMail.d(x:TMail):D:=.agg [.int .i64 x.From,.int .i64 x.To,.int .u8 x.Kind,.int .i64 x.Group,.int .i64 x.Slot,.int .i64 x.Ballot,.int .i64 x.Prior,.str x.Value,.int .i64 x.Id,.int .i64 x.Time]
theorem zg3:Pl TMail.d:=⟨fun _=>rfl,fun _=>rfl,fun q h _=>by first|rfl|simp[TMail.d,okM,okML,h]⟩
theorem ya3w(l:List TMail):mkML 1 (l.map TMail.d)=l.map TMail.d:=zjy 1 (fun _=>rfl) l
theorem zx8:Pl0 TMail.d:=⟨zg3,fun _ _=>rfl⟩
def Tseat_seat.d(x:Tseat_seat):D:=.agg [.int .i64 x.Seat.Me,.int .i64 x.Seat.Number,.imm 1 (x.Seat.Group.Roster.map (D.int .i64)) 4,.imm 1 (x.Seat.Group.Members.map (D.int .i64)) 4,.imm 1 (x.Seat.Log.map D.str) 4,.imm 5 (x.Seat.Votes.map TSeen.d) 4,.int .u8 x.Seat.Try.Phase,.int .i64 x.Seat.Try.Ballot,.imm 1 (x.Seat.Try.Members.map (D.int .i64)) 4,.str x.Seat.Try.Wish,.str x.Seat.Try.Value,.imm 3 (x.Seat.Try.Promises.map TPromise.d) 4,.imm 1 (x.Seat.Try.Accepted.map (D.int .i64)) 4,.imm 1 (x.Seat.Wishes.map D.str) 4,.int .i64 x.Seat.Heard,.imm 5 (x.fRecs.map TRecord.d) 4,.imm 10 (x.fMail.map TMail.d) 4]
def Tseat_seat.n(x:Tseat_seat):D:=.agg [.int .i64 x.Seat.Me,.int .i64 x.Seat.Number,.imm 1 (x.Seat.Group.Roster.map (D.int .i64)) 13,.imm 1 (x.Seat.Group.Members.map (D.int .i64)) 13,.imm 1 (x.Seat.Log.map D.str) 13,.imm 5 (x.Seat.Votes.map TSeen.d) 13,.int .u8 x.Seat.Try.Phase,.int .i64 x.Seat.Try.Ballot,.imm 1 (x.Seat.Try.Members.map (D.int .i64)) 13,.str x.Seat.Try.Wish,.str x.Seat.Try.Value,.imm 3 (x.Seat.Try.Promises.map TPromise.d) 13,.imm 1 (x.Seat.Try.Accepted.map (D.int .i64)) 13,.imm 1 (x.Seat.Wishes.map D.str) 13,.int .i64 x.Seat.Heard,.imm 5 (x.fRecs.map TRecord.d) 13,.imm 10 (x.fMail.map TMail.d) 13]
structure Ttowncrierlaw25_town where
 fSeats:List TSeat
 fMail:List TMail
 deriving Inhabited,DecidableEq
structure Ttowncrierlaw25_Act where
 Kind:Int
 Node:Int
 At:Int
 Value:List UInt8
 deriving Inhabited,DecidableEq
def Ttowncrierlaw25_town.d(x:Ttowncrierlaw25_town):D:=.agg [.imm 15 (x.fSeats.map TSeat.d) 4,.imm 10 (x.fMail.map TMail.d) 4]
def Ttowncrierlaw25_town.n(x:Ttowncrierlaw25_town):D:=.agg [.imm 15 (x.fSeats.map TSeat.d) 13,.imm 10 (x.fMail.map TMail.d) 13]
def Ttowncrierlaw25_Act.d(x:Ttowncrierlaw25_Act):D:=.agg [.int .u8 x.Kind,.int .i64 x.Node,.int .i64 x.At,.str x.Value]
theorem zmd(l:List Ttowncrierlaw25_Act):mkML 1 (l.map Ttowncrierlaw25_Act.d)=l.map Ttowncrierlaw25_Act.d:=zjy 1 (fun _=>rfl) l
def zlf(x:Tseat_seat)(a b c d e f g:Nat):Blk:=.box [.int .i64 x.Seat.Me,.int .i64 x.Seat.Number,.ref a 1 0 x.Seat.Group.Roster.length (some uC),.ref b 1 0 x.Seat.Group.Members.length (some uC),.ref c 1 0 x.Seat.Log.length (some uC),.ref d 5 0 x.Seat.Votes.length (some uC),.int .u8 x.Seat.Try.Phase,.int .i64 x.Seat.Try.Ballot,.imm 1 (x.Seat.Try.Members.map (D.int .i64)) 13,.str x.Seat.Try.Wish,.str x.Seat.Try.Value,.imm 3 (x.Seat.Try.Promises.map TPromise.d) 13,.imm 1 (x.Seat.Try.Accepted.map (D.int .i64)) 13,.ref e 1 0 x.Seat.Wishes.length (some uC),.int .i64 x.Seat.Heard,.ref f 5 0 x.fRecs.length (some uC),.ref g 10 0 x.fMail.length (some uC)]
def zg1(x:Tseat_seat)(o a b c d e f g:Nat):List (Nat×Blk):=[(o,.box [.int .i64 x.Seat.Me,.int .i64 x.Seat.Number,.ref a 1 0 x.Seat.Group.Roster.length (some uC),.ref b 1 0 x.Seat.Group.Members.length (some uC),.ref c 1 0 x.Seat.Log.length (some uC),.ref d 5 0 x.Seat.Votes.length (some uC),.int .u8 x.Seat.Try.Phase,.int .i64 x.Seat.Try.Ballot,.imm 1 (x.Seat.Try.Members.map (D.int .i64)) 13,.str x.Seat.Try.Wish,.str x.Seat.Try.Value,.imm 3 (x.Seat.Try.Promises.map TPromise.d) 13,.imm 1 (x.Seat.Try.Accepted.map (D.int .i64)) 13,.ref e 1 0 x.Seat.Wishes.length (some uC),.int .i64 x.Seat.Heard,.ref f 5 0 x.fRecs.length (some uC),.ref g 10 0 x.fMail.length (some uC)]),(a,.arr 3 1 true (x.Seat.Group.Roster.map (D.int .i64))),(b,.arr 3 1 true (x.Seat.Group.Members.map (D.int .i64))),(c,.arr 9 1 true (x.Seat.Log.map D.str)),(d,.arr 75 5 true (x.Seat.Votes.map TSeen.d)),(e,.arr 9 1 true (x.Seat.Wishes.map D.str)),(f,.arr 53 5 true (x.fRecs.map TRecord.d)),(g,.arr 55 10 true (x.fMail.map TMail.d))]
def zgu(x:Tseat_seat)(o a' b' c' d' e' f' g' a b c d e f g:Nat):List (Nat×Option Blk):=[(o,some (.box [.int .i64 x.Seat.Me,.int .i64 x.Seat.Number,.ref a 1 0 x.Seat.Group.Roster.length (some uC),.ref b 1 0 x.Seat.Group.Members.length (some uC),.ref c 1 0 x.Seat.Log.length (some uC),.ref d 5 0 x.Seat.Votes.length (some uC),.int .u8 x.Seat.Try.Phase,.int .i64 x.Seat.Try.Ballot,.imm 1 (x.Seat.Try.Members.map (D.int .i64)) 13,.str x.Seat.Try.Wish,.str x.Seat.Try.Value,.imm 3 (x.Seat.Try.Promises.map TPromise.d) 13,.imm 1 (x.Seat.Try.Accepted.map (D.int .i64)) 13,.ref e 1 0 x.Seat.Wishes.length (some uC),.int .i64 x.Seat.Heard,.ref f 5 0 x.fRecs.length (some uC),.ref g 10 0 x.fMail.length (some uC)])),(a',none),(b',none),(c',none),(d',none),(e',none),(f',none),(g',none),(a,some (.arr 3 1 true (x.Seat.Group.Roster.map (D.int .i64)))),(b,some (.arr 3 1 true (x.Seat.Group.Members.map (D.int .i64)))),(c,some (.arr 9 1 true (x.Seat.Log.map D.str))),(d,some (.arr 75 5 true (x.Seat.Votes.map TSeen.d))),(e,some (.arr 9 1 true (x.Seat.Wishes.map D.str))),(f,some (.arr 53 5 true (x.fRecs.map TRecord.d))),(g,some (.arr 55 10 true (x.fMail.map TMail.d)))]
end Go.Proofs
