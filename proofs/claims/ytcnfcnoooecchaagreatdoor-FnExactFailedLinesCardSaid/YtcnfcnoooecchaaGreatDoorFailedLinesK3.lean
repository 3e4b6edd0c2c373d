import Derived.Test.YtcnfcnoooecchaaGreatDoorFailedLinesK2
set_option linter.unusedVariables false
set_option linter.unusedSimpArgs false
namespace Go.Proofs.YtcnfcnoooecchaaGreatDoor
open Go Go.Mx
def DY(P:Program)(Ge:Heap)(iM:Nat)(pt:Sl)(pu:Int)(qo:Nat)(j7:Sl)(j8:Int)(jM:Nat)(l9:Sl)(ma:Int)(ld:Nat)(lY:Sl)(l8:Int)(bJ:Sl)(bK:Int)(jN:Nat)(jO:Nat)(cW:Sl)(K:Value->Heap->Prop):Prop:=
 ∀(um:Nat)(Dc:Heap),Ge.size<=um->Fr (In [iM]) Ge Dc->Vars Dc [(um,[(Sl.v pt),(VI pu)]),(qo,[(Sl.v j7),(VI j8)]),(jM,[(Sl.v l9),(VI ma)]),(ld,[(Sl.v lY),(VI l8)]),(iM,[(Sl.v bJ),(VI bK)]),(jN,[(Sl.v bJ),(VI bK)]),(jO,[(Sl.v cW)])]->
 K (Value.tuple #[(VI 0),(Value.agg #[(Sl.v bJ),(VI bK)]),(VI 0)]) Dc
def DZ(P:Program)(fS:Int)(pw:Int)(iM:Nat)(IU:Heap)(lc:Nat)(uJ:Sl)(uK:Int)(lX:Nat)(uL:Sl)(uM:Int)(jM:Nat)(l9:Sl)(ma:Int)(ld:Nat)(lY:Sl)(l8:Int)(bJ:Sl)(bK:Int)(jN:Nat)(jO:Nat)(cW:Sl)(K:Value->Heap->Prop):Prop:=
 ((decide (2000<(aL (fS+pw))))=true->
 ∀(ZG:Heap),Fr (In [iM]) IU ZG->Vars ZG [(lc,[(Sl.v uJ),(VI uK)]),(lX,[(Sl.v uL),(VI uM)]),(jM,[(Sl.v l9),(VI ma)]),(ld,[(Sl.v lY),(VI l8)]),(iM,[(Sl.v bJ),(VI bK)]),(jN,[(Sl.v bJ),(VI bK)]),(jO,[(Sl.v cW)])]->
 K (Value.tuple #[(VI 0),(Value.agg #[(Sl.v bJ),(VI bK)]),(VI 0)]) ZG)/\
 ((decide (2000<(aL (fS+pw))))=false->
 ∀(ZH:Heap),Fr (In [iM]) IU ZH->Vars ZH [(lc,[(Sl.v uJ),(VI uK)]),(lX,[(Sl.v uL),(VI uM)]),(jM,[(Sl.v l9),(VI ma)]),(ld,[(Sl.v lY),(VI l8)]),(iM,[(Sl.v uL),(VI uM)]),(jN,[(Sl.v bJ),(VI bK)]),(jO,[(Sl.v cW)])]->
 K (Value.tuple #[(VI fS),(Value.agg #[(Sl.v uL),(VI uM)]),(VI pw)]) ZH)
def zA(P:Program)(px:Bool)(iM:Nat)(sV:Heap)(jM:Nat)(l9:Sl)(ma:Int)(ld:Nat)(lY:Sl)(l8:Int)(bJ:Sl)(bK:Int)(jN:Nat)(jO:Nat)(cW:Sl)(K:Value->Heap->Prop):Prop:=
 ((! px)=true->
 ∀(Dd:Heap),Fr (In [iM]) sV Dd->Vars Dd [(jM,[(Sl.v l9),(VI ma)]),(ld,[(Sl.v lY),(VI l8)]),(iM,[(Sl.v bJ),(VI bK)]),(jN,[(Sl.v bJ),(VI bK)]),(jO,[(Sl.v cW)])]->
 K (Value.tuple #[(VI 0),(Value.agg #[(Sl.v bJ),(VI bK)]),(VI 0)]) Dd)/\
 ((! px)=false->
 aE P 227 #[(Value.agg #[(Sl.v cW)]),(Value.agg #[(Sl.v lY),(VI l8)]),(VI 2000)] sV fun ajD sR=>∃pw:Int,ajD=(VI pw)/\Vars sR [(jM,[(Sl.v l9),(VI ma)]),(ld,[(Sl.v lY),(VI l8)]),(iM,[(Sl.v aC),(VI 0)]),(jN,[(Sl.v bJ),(VI bK)]),(jO,[(Sl.v cW)])]/\
 ((decide (pw=0))=true->
 ∀(sS:Heap),Fr (In [iM]) sR sS->Vars sS [(jM,[(Sl.v l9),(VI ma)]),(ld,[(Sl.v lY),(VI l8)]),(iM,[(Sl.v bJ),(VI bK)]),(jN,[(Sl.v bJ),(VI bK)]),(jO,[(Sl.v cW)])]->
 K (Value.tuple #[(VI 0),(Value.agg #[(Sl.v bJ),(VI bK)]),(VI 0)]) sS)/\
 ((decide (pw=0))=false->
 ∃J_3:Nat->Sl->Int->Nat->Sl->Int->Heap->Prop,((∀(rA:Nat)(yy:Heap),sR.size<=rA->Fr (In []) sR yy->Vars yy [(rA,[(Sl.v aC),(VI 0)]),(jM,[(Sl.v l9),(VI ma)]),(ld,[(Sl.v lY),(VI l8)]),(iM,[(Sl.v aC),(VI 0)]),(jN,[(Sl.v bJ),(VI bK)]),(jO,[(Sl.v cW)])]->
 ∀(vT:Nat)(FY:Heap),yy.size<=vT->Fr (In []) yy FY->Vars FY [(vT,[(Sl.v aC),(VI 0)]),(rA,[(Sl.v aC),(VI 0)]),(jM,[(Sl.v l9),(VI ma)]),(ld,[(Sl.v lY),(VI l8)]),(iM,[(Sl.v aC),(VI 0)]),(jN,[(Sl.v bJ),(VI bK)]),(jO,[(Sl.v cW)])]->
 ∀(De:Heap),Fr (In [rA]) FY De->Vars De [(vT,[(Sl.v aC),(VI 0)]),(rA,[(Sl.v bJ),(VI bK)]),(jM,[(Sl.v l9),(VI ma)]),(ld,[(Sl.v lY),(VI l8)]),(iM,[(Sl.v aC),(VI 0)]),(jN,[(Sl.v bJ),(VI bK)]),(jO,[(Sl.v cW)])]->
 ∀(Iy:Heap),Fr (In [vT]) De Iy->Vars Iy [(vT,[(Sl.v bJ),(VI bK)]),(rA,[(Sl.v bJ),(VI bK)]),(jM,[(Sl.v l9),(VI ma)]),(ld,[(Sl.v lY),(VI l8)]),(iM,[(Sl.v aC),(VI 0)]),(jN,[(Sl.v bJ),(VI bK)]),(jO,[(Sl.v cW)])]->
 J_3 rA bJ bK vT bJ bK Iy)/\
 (∀(rB:Nat)(Gb:Heap),sR.size<=rB->Fr (In []) sR Gb->Vars Gb [(rB,[(Sl.v aC),(VI 0)]),(jM,[(Sl.v l9),(VI ma)]),(ld,[(Sl.v lY),(VI l8)]),(iM,[(Sl.v aC),(VI 0)]),(jN,[(Sl.v bJ),(VI bK)]),(jO,[(Sl.v cW)])]->
 ∀(vU:Nat)(OW:Heap),Gb.size<=vU->Fr (In []) Gb OW->Vars OW [(vU,[(Sl.v aC),(VI 0)]),(rB,[(Sl.v aC),(VI 0)]),(jM,[(Sl.v l9),(VI ma)]),(ld,[(Sl.v lY),(VI l8)]),(iM,[(Sl.v aC),(VI 0)]),(jN,[(Sl.v bJ),(VI bK)]),(jO,[(Sl.v cW)])]->
 ∀(jZ:Heap),Fr (In [vU]) OW jZ->Vars jZ [(vU,[(Sl.v bJ),(VI bK)]),(rB,[(Sl.v aC),(VI 0)]),(jM,[(Sl.v l9),(VI ma)]),(ld,[(Sl.v lY),(VI l8)]),(iM,[(Sl.v aC),(VI 0)]),(jN,[(Sl.v bJ),(VI bK)]),(jO,[(Sl.v cW)])]->
 ∀(Dp:Heap),Fr (In [rB]) jZ Dp->Vars Dp [(vU,[(Sl.v bJ),(VI bK)]),(rB,[(Sl.v bJ),(VI bK)]),(jM,[(Sl.v l9),(VI ma)]),(ld,[(Sl.v lY),(VI l8)]),(iM,[(Sl.v aC),(VI 0)]),(jN,[(Sl.v bJ),(VI bK)]),(jO,[(Sl.v cW)])]->
 J_3 vU bJ bK rB bJ bK Dp))/\
 ∀(lX:Nat)(x_9:Sl)(L5:Int)(lc:Nat)(ZI:Sl)(ZJ:Int)(ZK:Heap),J_3 lX x_9 L5 lc ZI ZJ ZK->Vars ZK [(lc,[(Sl.v ZI),(VI ZJ)]),(lX,[(Sl.v x_9),(VI L5)]),(jM,[(Sl.v l9),(VI ma)]),(ld,[(Sl.v lY),(VI l8)]),(iM,[(Sl.v aC),(VI 0)]),(jN,[(Sl.v bJ),(VI bK)]),(jO,[(Sl.v cW)])]->
 ∃J_4:Nat->Int->Sl->Int->Heap->Prop,(∃n0:Nat,J_4 n0 0 ZI ZJ ZK)/\
 ∀(n_2:Nat)(KA:Int)(Pn:Sl)(Po:Int)(TB:Heap),J_4 n_2 KA Pn Po TB->Vars TB [(lc,[(Sl.v Pn),(VI Po)]),(lX,[(Sl.v x_9),(VI L5)]),(jM,[(Sl.v l9),(VI ma)]),(ld,[(Sl.v lY),(VI l8)]),(iM,[(Sl.v aC),(VI 0)]),(jN,[(Sl.v bJ),(VI bK)]),(jO,[(Sl.v cW)])]->
 ((decide (KA<pw))=true->
 aE P 177 #[(Value.agg #[(Sl.v cW)]),(Value.agg #[(Sl.v Pn),(VI Po)])] TB fun ajG acI=>∃Pp:Sl,∃Pq:Int,∃acJ:Bool,ajG=(Value.tuple #[(Value.agg #[(Sl.v Pp),(VI Pq)]),(VB acJ)])/\Vars acI [(lc,[(Sl.v Pn),(VI Po)]),(lX,[(Sl.v x_9),(VI L5)]),(jM,[(Sl.v l9),(VI ma)]),(ld,[(Sl.v lY),(VI l8)]),(iM,[(Sl.v aC),(VI 0)]),(jN,[(Sl.v bJ),(VI bK)]),(jO,[(Sl.v cW)])]/\
 ∀(Dq:Heap),Fr (In [lc]) acI Dq->Vars Dq [(lc,[(Sl.v Pp),(VI Pq)]),(lX,[(Sl.v x_9),(VI L5)]),(jM,[(Sl.v l9),(VI ma)]),(ld,[(Sl.v lY),(VI l8)]),(iM,[(Sl.v aC),(VI 0)]),(jN,[(Sl.v bJ),(VI bK)]),(jO,[(Sl.v cW)])]->
 ∃m:Nat,m<n_2/\J_4 m (aL (KA+1)) Pp Pq Dq)/\
 ((decide (KA<pw))=false->
 ∃Ok:Nat->Int->Sl->Int->Sl->Int->Heap->Prop,(∃n0:Nat,Ok n0 0 Pn Po x_9 L5 TB)/\
 ∀(n_3:Nat)(fS:Int)(uJ:Sl)(uK:Int)(uL:Sl)(uM:Int)(ZL:Heap),Ok n_3 fS uJ uK uL uM ZL->Vars ZL [(lc,[(Sl.v uJ),(VI uK)]),(lX,[(Sl.v uL),(VI uM)]),(jM,[(Sl.v l9),(VI ma)]),(ld,[(Sl.v lY),(VI l8)]),(iM,[(Sl.v aC),(VI 0)]),(jN,[(Sl.v bJ),(VI bK)]),(jO,[(Sl.v cW)])]->
 aE P 226 #[(Value.agg #[(Sl.v uL),(VI uM)]),(Value.agg #[(Sl.v uJ),(VI uK)])] ZL fun ajH IU=>∃Pr:Bool,ajH=(VB Pr)/\Vars IU [(lc,[(Sl.v uJ),(VI uK)]),(lX,[(Sl.v uL),(VI uM)]),(jM,[(Sl.v l9),(VI ma)]),(ld,[(Sl.v lY),(VI l8)]),(iM,[(Sl.v aC),(VI 0)]),(jN,[(Sl.v bJ),(VI bK)]),(jO,[(Sl.v cW)])]/\
 ((! Pr)=true->
 ((decide (fS<=2000))=true->
 aE P 177 #[(Value.agg #[(Sl.v cW)]),(Value.agg #[(Sl.v uL),(VI uM)])] IU fun ajI acK=>∃Gf:Sl,∃Gg:Int,∃acL:Bool,ajI=(Value.tuple #[(Value.agg #[(Sl.v Gf),(VI Gg)]),(VB acL)])/\Vars acK [(lc,[(Sl.v uJ),(VI uK)]),(lX,[(Sl.v uL),(VI uM)]),(jM,[(Sl.v l9),(VI ma)]),(ld,[(Sl.v lY),(VI l8)]),(iM,[(Sl.v aC),(VI 0)]),(jN,[(Sl.v bJ),(VI bK)]),(jO,[(Sl.v cW)])]/\
 ∀(Dr:Heap),Fr (In [lX]) acK Dr->Vars Dr [(lc,[(Sl.v uJ),(VI uK)]),(lX,[(Sl.v Gf),(VI Gg)]),(jM,[(Sl.v l9),(VI ma)]),(ld,[(Sl.v lY),(VI l8)]),(iM,[(Sl.v aC),(VI 0)]),(jN,[(Sl.v bJ),(VI bK)]),(jO,[(Sl.v cW)])]->
 aE P 177 #[(Value.agg #[(Sl.v cW)]),(Value.agg #[(Sl.v uJ),(VI uK)])] Dr fun ajJ Ak=>∃IV:Sl,∃IW:Int,∃ZM:Bool,ajJ=(Value.tuple #[(Value.agg #[(Sl.v IV),(VI IW)]),(VB ZM)])/\Vars Ak [(lc,[(Sl.v uJ),(VI uK)]),(lX,[(Sl.v Gf),(VI Gg)]),(jM,[(Sl.v l9),(VI ma)]),(ld,[(Sl.v lY),(VI l8)]),(iM,[(Sl.v aC),(VI 0)]),(jN,[(Sl.v bJ),(VI bK)]),(jO,[(Sl.v cW)])]/\
 ∀(IA:Heap),Fr (In [lc]) Ak IA->Vars IA [(lc,[(Sl.v IV),(VI IW)]),(lX,[(Sl.v Gf),(VI Gg)]),(jM,[(Sl.v l9),(VI ma)]),(ld,[(Sl.v lY),(VI l8)]),(iM,[(Sl.v aC),(VI 0)]),(jN,[(Sl.v bJ),(VI bK)]),(jO,[(Sl.v cW)])]->
 ∃m:Nat,m<n_3/\Ok m (aL (fS+1)) IV IW Gf Gg IA)/\
 ((decide (fS<=2000))=false->
 DZ P fS pw iM IU lc uJ uK lX uL uM jM l9 ma ld lY l8 bJ bK jN jO cW K))/\
 ((! Pr)=false->
 DZ P fS pw iM IU lc uJ uK lX uL uM jM l9 ma ld lY l8 bJ bK jN jO cW K))))
def acM(P:Program)(cW:Sl)(bJ:Sl)(bK:Int)(h:Heap)(K:Value->Heap->Prop):Prop:=
 ∀(jO:Nat)(jN:Nat)(iM:Nat)(Qg:Heap),h.size<=jO->h.size<=jN->h.size<=iM->Fr (In []) h Qg->Vars Qg [(iM,[(Sl.v aC),(VI 0)]),(jN,[(Sl.v bJ),(VI bK)]),(jO,[(Sl.v cW)])]->
 ∃J_1:Nat->Sl->Int->Nat->Sl->Int->Heap->Prop,((∀(LZ:Nat)(nV:Heap),Qg.size<=LZ->Fr (In []) Qg nV->Vars nV [(LZ,[(Sl.v aC),(VI 0)]),(iM,[(Sl.v aC),(VI 0)]),(jN,[(Sl.v bJ),(VI bK)]),(jO,[(Sl.v cW)])]->
 ∀(Kz:Nat)(Sj:Heap),nV.size<=Kz->Fr (In []) nV Sj->Vars Sj [(Kz,[(Sl.v aC),(VI 0)]),(LZ,[(Sl.v aC),(VI 0)]),(iM,[(Sl.v aC),(VI 0)]),(jN,[(Sl.v bJ),(VI bK)]),(jO,[(Sl.v cW)])]->
 ∀(h_6:Heap),Fr (In [LZ]) Sj h_6->Vars h_6 [(Kz,[(Sl.v aC),(VI 0)]),(LZ,[(Sl.v bJ),(VI bK)]),(iM,[(Sl.v aC),(VI 0)]),(jN,[(Sl.v bJ),(VI bK)]),(jO,[(Sl.v cW)])]->
 ∀(h_7:Heap),Fr (In [Kz]) h_6 h_7->Vars h_7 [(Kz,[(Sl.v bJ),(VI bK)]),(LZ,[(Sl.v bJ),(VI bK)]),(iM,[(Sl.v aC),(VI 0)]),(jN,[(Sl.v bJ),(VI bK)]),(jO,[(Sl.v cW)])]->
 J_1 LZ bJ bK Kz bJ bK h_7)/\
 (∀(L2:Nat)(h_8:Heap),Qg.size<=L2->Fr (In []) Qg h_8->Vars h_8 [(L2,[(Sl.v aC),(VI 0)]),(iM,[(Sl.v aC),(VI 0)]),(jN,[(Sl.v bJ),(VI bK)]),(jO,[(Sl.v cW)])]->
 ∀(Qs:Nat)(Sk:Heap),h_8.size<=Qs->Fr (In []) h_8 Sk->Vars Sk [(Qs,[(Sl.v aC),(VI 0)]),(L2,[(Sl.v aC),(VI 0)]),(iM,[(Sl.v aC),(VI 0)]),(jN,[(Sl.v bJ),(VI bK)]),(jO,[(Sl.v cW)])]->
 ∀(ZN:Heap),Fr (In [Qs]) Sk ZN->Vars ZN [(Qs,[(Sl.v bJ),(VI bK)]),(L2,[(Sl.v aC),(VI 0)]),(iM,[(Sl.v aC),(VI 0)]),(jN,[(Sl.v bJ),(VI bK)]),(jO,[(Sl.v cW)])]->
 ∀(ZO:Heap),Fr (In [L2]) ZN ZO->Vars ZO [(Qs,[(Sl.v bJ),(VI bK)]),(L2,[(Sl.v bJ),(VI bK)]),(iM,[(Sl.v aC),(VI 0)]),(jN,[(Sl.v bJ),(VI bK)]),(jO,[(Sl.v cW)])]->
 J_1 Qs bJ bK L2 bJ bK ZO))/\
 ∀(ld:Nat)(x_1:Sl)(x_2:Int)(jM:Nat)(x_3:Sl)(x_4:Int)(ZP:Heap),J_1 ld x_1 x_2 jM x_3 x_4 ZP->Vars ZP [(jM,[(Sl.v x_3),(VI x_4)]),(ld,[(Sl.v x_1),(VI x_2)]),(iM,[(Sl.v aC),(VI 0)]),(jN,[(Sl.v bJ),(VI bK)]),(jO,[(Sl.v cW)])]->
 ∃J_2:Nat->Bool->Int->Sl->Int->Sl->Int->Heap->Prop,(∃n0:Nat,J_2 n0 false 1 x_3 x_4 x_1 x_2 ZP)/\
 ∀(n_1:Nat)(px:Bool)(KB:Int)(l9:Sl)(ma:Int)(lY:Sl)(l8:Int)(sV:Heap),J_2 n_1 px KB l9 ma lY l8 sV->Vars sV [(jM,[(Sl.v l9),(VI ma)]),(ld,[(Sl.v lY),(VI l8)]),(iM,[(Sl.v aC),(VI 0)]),(jN,[(Sl.v bJ),(VI bK)]),(jO,[(Sl.v cW)])]->
 ((decide ((aL (2*KB))<=4000))=true->
 ((! px)=true->
 aE P 177 #[(Value.agg #[(Sl.v cW)]),(Value.agg #[(Sl.v lY),(VI l8)])] sV fun Vt rz=>∃j7:Sl,∃j8:Int,∃Ps:Bool,Vt=(Value.tuple #[(Value.agg #[(Sl.v j7),(VI j8)]),(VB Ps)])/\Vars rz [(jM,[(Sl.v l9),(VI ma)]),(ld,[(Sl.v lY),(VI l8)]),(iM,[(Sl.v aC),(VI 0)]),(jN,[(Sl.v bJ),(VI bK)]),(jO,[(Sl.v cW)])]/\
 ∀(qo:Nat)(ZQ:Heap),rz.size<=qo->Fr (In []) rz ZQ->Vars ZQ [(qo,[(Sl.v j7),(VI j8)]),(jM,[(Sl.v l9),(VI ma)]),(ld,[(Sl.v lY),(VI l8)]),(iM,[(Sl.v aC),(VI 0)]),(jN,[(Sl.v bJ),(VI bK)]),(jO,[(Sl.v cW)])]->
 aE P 177 #[(Value.agg #[(Sl.v cW)]),(Value.agg #[(Sl.v l9),(VI ma)])] ZQ fun Vu Ge=>∃pt:Sl,∃pu:Int,∃Pt:Bool,Vu=(Value.tuple #[(Value.agg #[(Sl.v pt),(VI pu)]),(VB Pt)])/\Vars Ge [(qo,[(Sl.v j7),(VI j8)]),(jM,[(Sl.v l9),(VI ma)]),(ld,[(Sl.v lY),(VI l8)]),(iM,[(Sl.v aC),(VI 0)]),(jN,[(Sl.v bJ),(VI bK)]),(jO,[(Sl.v cW)])]/\
 ((! Ps)=true->
 DY P Ge iM pt pu qo j7 j8 jM l9 ma ld lY l8 bJ bK jN jO cW K)/\
 ((! Ps)=false->
 ((! Pt)=true->
 DY P Ge iM pt pu qo j7 j8 jM l9 ma ld lY l8 bJ bK jN jO cW K)/\
 ((! Pt)=false->
 ∀(um:Nat)(yB:Heap),Ge.size<=um->Fr (In []) Ge yB->Vars yB [(um,[(Sl.v pt),(VI pu)]),(qo,[(Sl.v j7),(VI j8)]),(jM,[(Sl.v l9),(VI ma)]),(ld,[(Sl.v lY),(VI l8)]),(iM,[(Sl.v aC),(VI 0)]),(jN,[(Sl.v bJ),(VI bK)]),(jO,[(Sl.v cW)])]->
 aE P 177 #[(Value.agg #[(Sl.v cW)]),(Value.agg #[(Sl.v pt),(VI pu)])] yB fun Vv Pu=>∃vC:Sl,∃vD:Int,∃Pv:Bool,Vv=(Value.tuple #[(Value.agg #[(Sl.v vC),(VI vD)]),(VB Pv)])/\Vars Pu [(um,[(Sl.v pt),(VI pu)]),(qo,[(Sl.v j7),(VI j8)]),(jM,[(Sl.v l9),(VI ma)]),(ld,[(Sl.v lY),(VI l8)]),(iM,[(Sl.v aC),(VI 0)]),(jN,[(Sl.v bJ),(VI bK)]),(jO,[(Sl.v cW)])]/\
 ((! Pv)=true->
 ∀(Aj:Nat)(uj:Heap),Pu.size<=Aj->Fr (In [iM]) Pu uj->Vars uj [(Aj,[(Sl.v vC),(VI vD)]),(um,[(Sl.v pt),(VI pu)]),(qo,[(Sl.v j7),(VI j8)]),(jM,[(Sl.v l9),(VI ma)]),(ld,[(Sl.v lY),(VI l8)]),(iM,[(Sl.v bJ),(VI bK)]),(jN,[(Sl.v bJ),(VI bK)]),(jO,[(Sl.v cW)])]->
 K (Value.tuple #[(VI 0),(Value.agg #[(Sl.v bJ),(VI bK)]),(VI 0)]) uj)/\
 ((! Pv)=false->
 ∀(Aj:Nat)(lW:Heap),Pu.size<=Aj->Fr (In [jM,ld]) Pu lW->Vars lW [(Aj,[(Sl.v vC),(VI vD)]),(um,[(Sl.v pt),(VI pu)]),(qo,[(Sl.v j7),(VI j8)]),(jM,[(Sl.v vC),(VI vD)]),(ld,[(Sl.v j7),(VI j8)]),(iM,[(Sl.v aC),(VI 0)]),(jN,[(Sl.v bJ),(VI bK)]),(jO,[(Sl.v cW)])]->
 aE P 226 #[(Value.agg #[(Sl.v j7),(VI j8)]),(Value.agg #[(Sl.v vC),(VI vD)])] lW fun ajS Db=>∃UF:Bool,ajS=(VB UF)/\Vars Db [(Aj,[(Sl.v vC),(VI vD)]),(um,[(Sl.v pt),(VI pu)]),(qo,[(Sl.v j7),(VI j8)]),(jM,[(Sl.v vC),(VI vD)]),(ld,[(Sl.v j7),(VI j8)]),(iM,[(Sl.v aC),(VI 0)]),(jN,[(Sl.v bJ),(VI bK)]),(jO,[(Sl.v cW)])]/\
 ∃m:Nat,m<n_1/\J_2 m UF (aL (KB+1)) vC vD j7 j8 Db))))/\
 ((! px)=false->
 zA P px iM sV jM l9 ma ld lY l8 bJ bK jN jO cW K))/\
 ((decide ((aL (2*KB))<=4000))=false->
 zA P px iM sV jM l9 ma ld lY l8 bJ bK jN jO cW K)
theorem ajT(cW:Sl)(bJ:Sl)(bK:Int)(h:Heap)(K:Value->Heap->Prop)(H:acM Tryz.prog cW bJ bK h K):aE Tryz.prog 181 #[(Value.agg #[(Sl.v cW)]),(Value.agg #[(Sl.v bJ),(VI bK)])] h K:=agp cW bJ bK h K H
theorem ky{S S':Nat->Prop}{h:Heap}{g w:Sl}{aD:List (List Int)}{s:St}(G:bU S h g aD)(H:aQ S' h w s.1)(W:gq aD s){p:Int}(hp:p=s.2)(K:Value->Heap->Prop)(HK:∀(t:Sl) h',aQ (fun k=>S' k\/h.size<=k) h' t ((cA aD s).getD s).1->Fr No h h'->K (.tuple #[.agg #[t.v,VI ((cA aD s).getD s).2],VB (cA aD s).isSome]) h'):aE Tryz.prog 177 #[.agg #[g.v],.agg #[w.v,VI p]] h K:=by
 subst hp
 refine oO G H W _ (fun hn h' f=> ?_) (fun s' hs t h' o f=> ?_)
 ·have:=HK w h' (by rw[hn];exact(H.no f).mono fun k hk=> .inl hk) f
  rw[hn]at this
  exact this
 ·have:=HK t h' (by rw[hs];exact cK.mono o.eW fun k hk=> .inr hk.1) f
  rw[hs]at this
  exact this
theorem nF{g:List (List Int)}{s:St}(W:gq g s):∀{n:Nat}{t:St},sq g s n=some t->gq g t
 |0,t,h=>by rw[sq]at h;cases h;exact W
 |n+1,t,h=>by
  rw[sq]at h
  cases hn:sq g s n with
  |none=>rw[hn]at h;cases h
  |some u=>rw[hn]at h;exact(nF W hn).step h
theorem zB{g:List (List Int)}{s0:St}:∀(f n:Nat)(s:St),f+n=2001->sq g s0 n=some s->(∀j,1<=j->j<n->sq g s0 j≠some s0)->((bG g (jK s0.1 s0.2) 1 f (n:Int) () s).1=0/\∀j,1<=j->j<=2000->sq g s0 j≠some s0)\/∃a:Nat,(bG g (jK s0.1 s0.2) 1 f (n:Int) () s).1=(a:Int)/\1<=a/\a<=2000/\sq g s0 a=some s0/\∀j,1<=j->j<a->sq g s0 j≠some s0
 |0,n,s,hn,hs,hj=> .inl ⟨rfl,fun j h1 h2=>hj j h1 (by omega)⟩
 |f+1,n,s,hn,hs,hj=>by
  rw[bG]
  have stop:cA g s=none->(1<=n->s≠s0)->∀j,1<=j->j<=2000->sq g s0 j≠some s0:=fun he dZ j h1 h2 hc=>by
   by_cases h3:j<n
   ·exact hj j h1 h3 hc
   ·by_cases h4:j=n
    ·rw[h4,hs]at hc
     exact dZ (by omega) (Option.some.inj hc)
    ·have:sq g s0 (n+1)=none:=by rw[sq,hs];exact he
     have:=wL this (j-(n+1))
     rw[show n+1+(j-(n+1))=j by omega]at this
     rw[this]at hc;cases hc
  have next:∀s',cA g s=some s'->(1<=n->s≠s0)->(∀j,1<=j->j<n+1->sq g s0 j≠some s0):=fun s' he dZ j h1 h2=>by
   by_cases h3:j<n
   ·exact hj j h1 h3
   ·have:j=n:=by omega
    subst this
    rw[hs]
    exact fun hc=>dZ (by omega) (Option.some.inj hc)
  by_cases h1:(1:Int)<=(n:Int)
  ·rw[if_pos h1]
   by_cases h2:(jK s0.1 s0.2 () s).1=true
   ·rw[if_pos h2]
    have e:s=s0:=by
     simp only[jK,decide_eq_true_eq]at h2
     exact Prod.ext h2.2.symm h2.1.symm
    exact .inr ⟨n,rfl,by omega,by omega,by rw[hs,e],hj⟩
   ·rw[if_neg h2]
    have dZ:s≠s0:=fun e=>h2 (by simp[jK,e])
    cases he:cA g s with
    |none=>exact .inl ⟨rfl,stop he fun _=>dZ⟩
    |some s'=>
     have:=zB f (n+1) s' (by omega) (by rw[sq,hs];exact he) (next s' he fun _=>dZ)
     simpa using this
  ·rw[if_neg h1]
   cases he:cA g s with
   |none=>exact .inl ⟨rfl,stop he fun h=>absurd h (by omega)⟩
   |some s'=>
    have:=zB f (n+1) s' (by omega) (by rw[sq,hs];exact he) (next s' he fun h=>absurd h (by omega))
    simpa using this
theorem BJ{g:List (List Int)}{s0 s:St}{m n a:Nat}(R:sK g s0 m n)(ha:m<=a)(hs:sq g s0 a=some s):((bG g (jK s.1 s.2) 1 2001 0 () s).1=0/\2000<n-m)\/((bG g (jK s.1 s.2) 1 2001 0 () s).1=((n-m:Nat):Int)/\n-m<=2000):=by
 have tt:=R.lt
 have key:∀j,sq g s j=sq g s0 (a+j):=fun j=>by rw[yk,hs];rfl
 have ZR:∀j,1<=j->(sq g s j=some s↔j%(n-m)=0):=fun j hj=>by
  rw[key,<-hs]
  have:=R.iff (a:=a) (b:=a+j) (by omega)
  rw[show a+j-a=j by omega]at this
  constructor
  ·intro h;exact(this.1 h.symm).2
  ·intro h;exact(this.2 ⟨ha,h⟩).symm
 rcases zB (g:=g) (s0:=s) 2001 0 s rfl rfl (fun j h1 h2=>by omega)with⟨h1,h2⟩|⟨b,h1,h2,h3,h4,h5⟩
 ·refine .inl ⟨h1,?_⟩
  by_cases hc:n-m<=2000
  ·exact absurd ((ZR (n-m) (by omega)).2 (Nat.mod_self _)) (h2 (n-m) (by omega) hc)
  ·omega
 ·have hb:=(ZR b h2).1 h4
  have hle:n-m<=b:=by
   by_cases hc:n-m<=b
   ·exact hc
   ·rw[Nat.mod_eq_of_lt (by omega)]at hb;omega
  have heq:n-m=b:=by
   by_cases hc:n-m<b
   ·exact absurd ((ZR (n-m) (by omega)).2 (Nat.mod_self _)) (h5 (n-m) (by omega) hc)
   ·omega
  exact .inr ⟨h1.trans (by rw[heq]),by omega⟩
theorem Gh{S':Nat->Prop}{h:Heap}{g w:Sl}{aD:List (List Int)}{rs:List Int}{p:Int}{m n:Nat}(R:sK aD (rs,p) m n){K:Value->Heap->Prop}(HN:(∀m k,sK aD (rs,p) m k->2000<k)->∀h',Fr No h h'->K (.tuple #[VI 0,.agg #[w.v,VI p],VI 0]) h')(HS:∀m k s,sK aD (rs,p) m k->k<=2000->sq aD (rs,p) m=some s->∀t h',aQ (fun k=>S' k\/h.size<=k) h' t s.1->Fr No h h'->K (.tuple #[VI m,.agg #[t.v,VI s.2],VI ((k:Int)-m)]) h'){b1 b2 b3 b4 b5 b13 b14:Nat}(iT:h.size<=b3){X:Heap}(fX:Fr (fun k=>h.size<=k) h X){x5 x7 x15 x17:Sl}{x6 x8 x16:Int}{i:Nat}{s:St}(hs:sq aD (rs,p) i=some s)(hi:i=m\/i=2001/\2000<n)(Q:aQ (fun k=>(S' k/\k<h.size)\/(h.size<=k/\k≠b3)) X x17 s.1)(wB:i<=2001)(xW:n-m<=2000):DZ Tryz.prog (i:Int) ((n-m:Nat):Int) b3 X b14 x15 x16 b13 x17 s.2 b5 x5 x6 b4 x7 x8 w p b2 b1 g K:=by
 have tt:=R.lt
 unfold DZ
 rw[aG _ (by omega) (by omega)]
 have vx:∀{Y:Heap},Fr (In [b3]) X Y->Fr No h Y:=fun f=>(fX.trans (f.mono fun k _ hk=>by simp[In]at hk;omega)).mono fun k hk aI=>absurd aI (by omega)
 refine⟨fun e Y fY hL=> ?_,fun e Y fY hL=> ?_⟩
 ·simp only[decide_eq_true_eq]at e
  refine HN (fun m' k' R'=> ?_) Y (vx fY)
  obtain⟨rfl,rfl⟩:=R.Wj R'
  rcases hi with rfl|⟨_,h2⟩
  ·omega
  ·exact h2
 ·simp only[decide_eq_false_iff_not]at e
  rcases hi with rfl|⟨rfl,h2⟩
  ·have:=HS i n s R (by omega) hs x17 Y ((Q.fr fY fun k hk aI=>by simp[In]at aI;rcases hk with hk|hk<;>omega).mono fun k hk=>by rcases hk with hk|hk;exact .inl hk.1;exact .inr hk.1) (vx fY)
   rw[show((n-i:Nat):Int)=(n:Int)-i by omega]
   exact this
  ·omega
set_option maxHeartbeats 4000000 in
theorem Pw{S S':Nat->Prop}{h:Heap}{g w:Sl}{aD:List (List Int)}{rs:List Int}{p:Int}(G:bU S h g aD)(H:aQ S' h w rs)(W:gq aD (rs,p)){K:Value->Heap->Prop}(HN:(∀m k,sK aD (rs,p) m k->2000<k)->∀h',Fr No h h'->K (.tuple #[VI 0,.agg #[w.v,VI p],VI 0]) h')(HS:∀m k s,sK aD (rs,p) m k->k<=2000->sq aD (rs,p) m=some s->∀t h',aQ (fun k=>S' k\/h.size<=k) h' t s.1->Fr No h h'->K (.tuple #[VI m,.agg #[t.v,VI s.2],VI ((k:Int)-m)]) h'){b1 b2 b3 b4 b5:Nat}(hb:h.size<=b1/\h.size<=b2/\h.size<=b3/\h.size<=b4/\h.size<=b5){X:Heap}(fX:Fr (fun k=>h.size<=k) h X){T:Nat->Prop}{x5 x7:Sl}{x6:Int}{a:Nat}{s:St}(met:Bool)(hs:sq aD (rs,p) a=some s)(Q:aQ T X x7 s.1)(ajV:met=true->1<=a/\sq aD (rs,p) a=sq aD (rs,p) (2*a))(hL:Vars X [(b5,[x5.v,VI x6]),(b4,[x7.v,VI s.2]),(b3,[aC.v,VI 0]),(b2,[w.v,VI p]),(b1,[g.v])])(hT:(!met)=true->∀h':Heap,Fr (In [b3]) X h'->K (.tuple #[VI 0,.agg #[w.v,VI p],VI 0]) h'):zA Tryz.prog met b3 X b5 x5 x6 b4 x7 s.2 w p b2 b1 g K:=by
 unfold zA
 obtain⟨eD,dK,iT,GP,Qj⟩:=hb
 have zX:=fX.size
 have wl:=W.len
 have G0:bU (fun k=>S k/\k<h.size) h g aD:=G.xm
 have H0:aQ (fun k=>S' k/\k<h.size) h w rs:=cK.lt H
 refine⟨fun e h' f _=>hT e h' f,?_⟩
 intro e
 have hm:=ajV (by simpa using e)
 obtain⟨m,n,hn,R⟩:=Wi (g:=aD) (s:=(rs,p)) (2*a) (a:=a) (by omega) hm.2 (by rw[hs];exact fun h=>by cases h)
 have tt:=R.lt
 have hma:m<=a:=((R.iff (a:=a) (b:=2*a) (by omega)).1 hm.2).1
 have Ws:gq aD s:=nF W hs
 have GX:bU (fun k=>S k/\k<h.size) X g aD:=G0.fr fX fun k hk aI=>by omega
 have Px:∀{Y:Heap},Fr (fun k=>h.size<=k) h Y->Fr No h Y:=fun f=>f.mono fun k hk aI=>absurd aI (by omega)
 have up:∀{Y Z:Heap}{l:List Nat},(∀k,k∈l->h.size<=k)->Fr (In l) Y Z->Fr (fun k=>h.size<=k) Y Z:=fun hl f=>f.mono fun k _ hk=>hl k hk
 have all:=R.all
 refine Ld GX (show aQ T X x7 (s.1,s.2).1 from Q) s.2 Ws _ fun h29 f29=>⟨_,rfl,hL.aB f29,fun e1 h30 f30 aiE=> ?_,fun e1=> ?_⟩
 ·have Py:=fX.trans f29.aB
  refine HN (fun m' k' R'=> ?_) h30 (Px (Py.trans (f30.mono fun k _ hk=>by simp[In]at hk;omega)))
  obtain⟨rfl,rfl⟩:=R.Wj R'
  simp only[decide_eq_true_eq]at e1
  rcases BJ R hma hs with⟨_,h2⟩|⟨h1,h2⟩
  ·omega
  ·rw[show((s.1,s.2):St)=s from rfl]at e1;rw[h1]at e1;omega
 simp only[decide_eq_false_iff_not]at e1
 have xW:(bG aD (jK s.1 s.2) 1 2001 0 () (s.1,s.2)).1=((n-m:Nat):Int)/\n-m<=2000:=by
  rcases BJ R hma hs with⟨h1,h2⟩|h
  ·exact absurd h1 e1
  ·exact h
 rw[xW.1]
 have xW:=xW.2
 have Py:=fX.trans f29.aB
 have z29:=Py.size
 have ao4:=hL.aB f29
 refine⟨fun b13 x9 NI b14 NK Qk h'=>x9=w/\NI=p/\NK=w/\Qk=p/\h29.size<=b13/\h29.size<=b14/\Fr (fun k=>h.size<=k) h h',⟨fun b15 h31 ZS f31 Rr b16 VJ ajW f32 ajX h33 f33 ajY h34 f34 VK=> ?_,fun b17 h35 ZT f35 abK b18 h36 ajZ f36 Rt h37 f37 NL h38 f38 aj0=> ?_⟩,?_⟩
 ·have:=f31.size
  exact⟨rfl,rfl,rfl,rfl,ZS,by omega,(((Py.trans f31.aF.aB).trans f32.aF.aB).trans (f33.mono fun k _ hk=>by simp[In]at hk;omega)).trans (f34.mono fun k _ hk=>by simp[In]at hk;omega)⟩
 ·have:=f35.size
  exact⟨rfl,rfl,rfl,rfl,by omega,ZT,(((Py.trans f35.aF.aB).trans f36.aF.aB).trans (f37.mono fun k _ hk=>by simp[In]at hk;omega)).trans (f38.mono fun k _ hk=>by simp[In]at hk;omega)⟩
 rintro b13 x9 NI b14 NK Qk Li ⟨rfl,rfl,rfl,rfl,ao9,apa,f39⟩ NN
 have z39:=f39.size
 have l14:b14<Li.size:=NN.head.lt
 have l13:b13<Li.size:=NN.tail.head.lt
 have l3:b3<Li.size:=NN.tail.tail.tail.tail.head.lt
 have inc:∀{k:Nat},((S' k/\k<h.size)\/Li.size<=k)->(S' k/\k<h.size)\/(h.size<=k/\k≠b3):=fun hk=>by
  rcases hk with hk|hk
  ·exact .inl hk
  ·exact .inr (by omega)
 have H39:aQ (fun k=>(S' k/\k<h.size)\/Li.size<=k) Li NK rs:=(H0.fr f39 fun k hk aI=>by omega).mono fun k hk=> .inl hk
 refine⟨fun n2 i x q h'=>∃(j:Nat)(t:St),i=(j:Int)/\n2+j=n-m/\sq aD (rs,Qk) j=some t/\q=t.2/\aQ (fun k=>(S' k/\k<h.size)\/Li.size<=k) h' x t.1/\Fr (fun k=>h.size<=k) h h'/\Li.size<=h'.size,⟨n-m,0,(rs,Qk),rfl,rfl,rfl,rfl,H39,f39,Nat.le_refl _⟩,?_⟩
 rintro n2 i x q h40 ⟨j,t,rfl,ej,hj,rfl,Q40,f40,z40⟩ aj1
 have Wt:gq aD t:=nF W hj
 have G40:bU (fun k=>S k/\k<h.size) h40 g aD:=G0.fr f40 fun k hk aI=>by omega
 refine⟨fun e2=> ?_,fun e2=> ?_⟩
 ·simp only[decide_eq_true_eq]at e2
  refine ky G40 Q40 Wt rfl _ fun y h41 Y41 f41=>⟨y,_,_,rfl,aj1.aB f41,fun h42 f42 aiL=> ?_⟩
  have z41:=f41.size
  rw[aG _ (by omega) (by omega)]
  have MM:cA aD t≠none:=fun hh=>all (j+1) (by rw[sq,hj];exact hh)
  obtain⟨t',ZU⟩:=Option.ne_none_iff_exists'.1 MM
  rw[ZU]at Y41⊢
  simp only[Option.getD_some]at Y41⊢
  refine⟨n2-1,by omega,j+1,t',by omega,by omega,by rw[sq,hj];exact ZU,rfl,(Y41.fr f42 fun k hk aI=>by simp[In]at aI;rcases hk with(hk|hk)|hk<;>omega).mono fun k hk=>by rcases hk with hk|hk;exact hk;exact .inr (by omega),(f40.trans f41.aB).trans (f42.mono fun k _ hk=>by simp[In]at hk;omega),by have:=f42.size;omega⟩
 simp only[decide_eq_false_iff_not]at e2
 have ej2:j=n-m:=by omega
 subst ej2
 have H40:aQ (fun k=>(S' k/\k<h.size)\/Li.size<=k) h40 NK rs:=(H0.fr f40 fun k hk aI=>by omega).mono fun k hk=> .inl hk
 refine⟨fun n3 st y q2 z q3 h'=>∃(i:Nat)(u v:St),st=(i:Int)/\n3+i=2001/\sq aD (rs,Qk) i=some u/\sq aD (rs,Qk) (i+(n-m))=some v/\q3=u.2/\q2=v.2/\aQ (fun k=>(S' k/\k<h.size)\/Li.size<=k) h' z u.1/\aQ (fun k=>(S' k/\k<h.size)\/Li.size<=k) h' y v.1/\(∀j,j<i->j<m)/\Fr (fun k=>h.size<=k) h h'/\Li.size<=h'.size,⟨2001,0,(rs,Qk),t,rfl,rfl,rfl,by rw[Nat.zero_add];exact hj,rfl,rfl,H40,Q40,fun j hj=>by omega,f40,z40⟩,?_⟩
 rintro n3 st y q2 z q3 h43 ⟨i,u,v,rfl,en3,hu,hv,rfl,rfl,Z43,Y43,aj3,f43,z43⟩ acP
 have Wu:gq aD u:=nF W hu
 have Wv:gq aD v:=nF W hv
 have zC:(u.2=v.2/\u.1=v.1)↔m<=i:=by
  have h1:=R.iff (a:=i) (b:=i+(n-m)) (by omega)
  rw[hu,hv,show i+(n-m)-i=n-m by omega,Nat.mod_self]at h1
  constructor
  ·intro hh;exact(h1.1 (congrArg some (Prod.ext hh.2 hh.1))).1
  ·intro hh
   have:=Option.some.inj (h1.2 ⟨hh,rfl⟩)
   rw[this];exact⟨rfl,rfl⟩
 refine xS Z43 Y43 u.2 v.2 _ fun h44 f44=>⟨_,rfl,acP.aB f44,fun e3=>⟨fun e4=> ?_,fun e4=> ?_⟩,fun e3=> ?_⟩
 ·have aj4:=acP.aB f44
  have z44:=f44.size
  simp only[Bool.not_eq_true',decide_eq_false_iff_not,zC]at e3
  simp only[decide_eq_true_eq]at e4
  have acQ:=f43.trans f44.aB
  have G44:bU (fun k=>S k/\k<h.size) h44 g aD:=G0.fr acQ fun k hk aI=>by omega
  refine ky G44 (Z43.no f44) Wu rfl _ fun z' h45 Z45 f45=>⟨z',_,_,rfl,aj4.aB f45,fun h46 f46 aj6=> ?_⟩
  have z45:=f45.size
  have acR:=(acQ.trans f45.aB).trans (f46.mono fun k _ hk=>by simp[In]at hk;omega)
  have z46:=f46.size
  have G46:bU (fun k=>S k/\k<h.size) h46 g aD:=G0.fr acR fun k hk aI=>by omega
  have Y46:=((Y43.no f44).no f45).fr f46 fun k hk aI=>by simp[In]at aI;rcases hk with hk|hk<;>omega
  refine ky G46 Y46 Wv rfl _ fun y' h47 Y47 f47=>⟨y',_,_,rfl,aj6.aB f47,fun h48 f48 apk=> ?_⟩
  have z47:=f47.size
  have z48:=f48.size
  have hsu:cA aD u≠none:=fun hh=>all (i+1) (by rw[sq,hu];exact hh)
  have hsv:cA aD v≠none:=fun hh=>all (i+(n-m)+1) (by rw[sq,hv];exact hh)
  obtain⟨u',hu'⟩:=Option.ne_none_iff_exists'.1 hsu
  obtain⟨v',hv'⟩:=Option.ne_none_iff_exists'.1 hsv
  rw[hu']at Z45⊢
  rw[hv']at Y47⊢
  simp only[Option.getD_some]at Z45 Y47⊢
  rw[aG _ (by omega) (by omega)]
  refine⟨n3-1,by omega,i+1,u',v',by omega,by omega,by rw[sq,hu];exact hu',by rw[show i+1+(n-m)=i+(n-m)+1 by omega,sq,hv];exact hv',rfl,rfl,?_,?_,fun j hj=>by omega,?_,by omega⟩
  ·have a1:=(Z45.fr f46 fun k hk aI=>by simp[In]at aI;rcases hk with(hk|hk)|hk<;>omega).no f47
   exact(a1.fr f48 fun k hk aI=>by simp[In]at aI;rcases hk with(hk|hk)|hk<;>omega).mono fun k hk=>by rcases hk with hk|hk;exact hk;exact .inr (by omega)
  ·exact(Y47.fr f48 fun k hk aI=>by simp[In]at aI;rcases hk with(hk|hk)|hk<;>omega).mono fun k hk=>by rcases hk with hk|hk;exact hk;exact .inr (by omega)
  ·exact(acR.trans f47.aB).trans (f48.mono fun k _ hk=>by simp[In]at hk;omega)
 ·simp only[Bool.not_eq_true',decide_eq_false_iff_not,zC]at e3
  simp only[decide_eq_false_iff_not]at e4
  exact Gh R HN HS iT (f43.trans f44.aB) hu (.inr ⟨by omega,by omega⟩) ((Z43.no f44).mono fun k hk=>inc hk) (by omega) xW
 ·simp only[Bool.not_eq_false',decide_eq_true_eq,zC]at e3
  have him:i=m:=by
   by_cases hc:m<i
   ·have:=aj3 m hc;omega
   ·omega
  exact Gh R HN HS iT (f43.trans f44.aB) hu (.inl him) ((Z43.no f44).mono fun k hk=>inc hk) (by omega) xW
set_option maxHeartbeats 4000000 in
theorem IX{S S':Nat->Prop}{h:Heap}{g w:Sl}{aD:List (List Int)}{rs:List Int}{p:Int}(G:bU S h g aD)(H:aQ S' h w rs)(W:gq aD (rs,p))(K:Value->Heap->Prop)(HN:(∀m k,sK aD (rs,p) m k->2000<k)->∀h',Fr No h h'->K (.tuple #[VI 0,.agg #[w.v,VI p],VI 0]) h')(HS:∀m k s,sK aD (rs,p) m k->k<=2000->sq aD (rs,p) m=some s->∀t h',aQ (fun k=>S' k\/h.size<=k) h' t s.1->Fr No h h'->K (.tuple #[VI m,.agg #[t.v,VI s.2],VI ((k:Int)-m)]) h'):aE Tryz.prog 181 #[.agg #[g.v],.agg #[w.v,VI p]] h K:=by
 refine ajT g w p h K ?_
 unfold acM
 intro b1 b2 b3 h3 eD dK iT f3 cF
 have f3:=f3.aF
 have z3:=f3.size
 have G0:bU (fun k=>S k/\k<h.size) h g aD:=G.xm
 have H0:aQ (fun k=>S' k/\k<h.size) h w rs:=cK.lt H
 have Px:∀{Y:Heap},Fr (fun k=>h.size<=k) h Y->Fr No h Y:=fun f=>f.mono fun k hk aI=>absurd aI (by omega)
 refine⟨fun b4 x1 x2 b5 x3 x4 h'=>x1=w/\x2=p/\x3=w/\x4=p/\h3.size<=b4/\h3.size<=b5/\Fr (fun k=>h.size<=k) h h',⟨fun b15 h31 ZS f31 Rr b16 VJ ajW f32 ajX h33 f33 ajY h34 f34 VK=> ?_,fun b17 h35 ZT f35 abK b18 h36 ajZ f36 Rt h37 f37 NL h38 f38 aj0=> ?_⟩,?_⟩
 ·have:=f31.size
  exact⟨rfl,rfl,rfl,rfl,ZS,by omega,(((f3.aB.trans f31.aF.aB).trans f32.aF.aB).trans (f33.mono fun k _ hk=>by simp[In]at hk;omega)).trans (f34.mono fun k _ hk=>by simp[In]at hk;omega)⟩
 ·have:=f35.size
  exact⟨rfl,rfl,rfl,rfl,by omega,ZT,(((f3.aB.trans f35.aF.aB).trans f36.aF.aB).trans (f37.mono fun k _ hk=>by simp[In]at hk;omega)).trans (f38.mono fun k _ hk=>by simp[In]at hk;omega)⟩
 rintro b4 x1 x2 b5 x3 x4 gM ⟨rfl,rfl,rfl,rfl,GP,Qj,f12⟩ ud
 have z12:=f12.size
 have l5:b5<gM.size:=ud.head.lt
 have l4:b4<gM.size:=ud.tail.head.lt
 have l3:b3<gM.size:=ud.tail.tail.head.lt
 have H12:aQ (fun k=>(S' k/\k<h.size)\/gM.size<=k) gM x3 rs:=(H0.fr f12 fun k hk aI=>by omega).mono fun k hk=> .inl hk
 refine⟨fun n met Ut x5 x6 x7 x8 h'=>∃(a:Nat)(s t:St),Ut=(a:Int)+1/\n+a=2000/\sq aD (rs,x4) a=some s/\sq aD (rs,x4) (2*a)=some t/\x8=s.2/\x6=t.2/\aQ (fun k=>(S' k/\k<h.size)\/gM.size<=k) h' x7 s.1/\aQ (fun k=>(S' k/\k<h.size)\/gM.size<=k) h' x5 t.1/\(met=true->1<=a/\s=t)/\(met=false->∀j,1<=j->j<=a->sq aD (rs,x4) j≠sq aD (rs,x4) (2*j))/\Fr (fun k=>h.size<=k) h h'/\gM.size<=h'.size,⟨2000,0,(rs,x4),(rs,x4),rfl,rfl,rfl,rfl,rfl,rfl,H12,H12,fun e=>(by cases e),fun _ j h1 h2=>by omega,f12,Nat.le_refl _⟩,?_⟩
 rintro n met Ut x5 x6 x7 x8 qT ⟨a,s,t,rfl,en,hs,ht,rfl,rfl,Q13,P13,hm1,hm0,f13,z13⟩ Lb
 have Ws:gq aD s:=nF W hs
 have Wt:gq aD t:=nF W ht
 have bad:∀{X Y:Heap},(∀m k,sK aD (rs,x4) m k->2000<k)->Fr (fun k=>h.size<=k) h X->Fr (In [b3]) X Y->K (.tuple #[VI 0,.agg #[x3.v,VI x4],VI 0]) Y:=fun hN f1 f2=>HN hN _ (Px (f1.trans (f2.mono fun k _ hk=>by simp[In]at hk;omega)))
 have UG:((!met)=true->∀h':Heap,Fr (In [b3]) qT h'->K (.tuple #[VI 0,.agg #[x3.v,VI x4],VI 0]) h')->zA Tryz.prog met b3 qT b5 x5 t.2 b4 x7 s.2 x3 x4 b2 b1 g K:=Pw G H W HN HS ⟨eD,dK,iT,by omega,by omega⟩ f13 met hs Q13 (fun e=>by obtain⟨h1,h2⟩:=hm1 e;exact⟨h1,by rw[hs,ht,h2]⟩) Lb
 rw[aG (2*((a:Int)+1)) (by omega) (by omega)]
 refine⟨fun e=>⟨fun e2=> ?_,fun e2=>UG fun e3=>absurd (e2.symm.trans e3) (by decide)⟩,fun e=>UG fun e2 h53 f53=> ?_⟩
 ·simp only[decide_eq_true_eq]at e
  have hmf:met=false:=by simpa using e2
  have G13:bU (fun k=>S k/\k<h.size) qT g aD:=G0.fr f13 fun k hk aI=>by omega
  refine ky G13 Q13 Ws rfl _ fun y LQ Y14 f14=>⟨y,_,_,rfl,Lb.aB f14,fun b10 WB abJ f16 IY=> ?_⟩
  have f16:=f16.aF
  have z14:=f14.size
  have z16:=f16.size
  have TC:=(f13.trans f14.aB).trans f16.aB
  have G16:bU (fun k=>S k/\k<h.size) WB g aD:=G0.fr TC fun k hk aI=>by omega
  refine ky G16 ((P13.no f14).no f16) Wt rfl _ fun z h17 Z17 f17=>⟨z,_,_,rfl,IY.aB f17,fun e3=> ?_,fun e3=>⟨fun e4=> ?_,fun e4 b11 LS acS f19 zD=> ?_⟩⟩
  ·have hz:sq aD (rs,x4) (a+1)=none:=by
    rw[sq,hs]
    cases h5:cA aD s with
    |none=>exact h5
    |some s'=>rw[h5]at e3;cases e3
   unfold DY
   exact fun b11 h28 acS f28 LP=>bad (fun m k R=>absurd hz (R.all _)) (TC.trans f17.aB) f28
  ·have hz:sq aD (rs,x4) (2*a+1)=none:=by
    rw[sq,ht]
    cases h5:cA aD t with
    |none=>exact h5
    |some s'=>rw[h5]at e4;cases e4
   unfold DY
   exact fun b11 h28 acS f28 LP=>bad (fun m k R=>absurd hz (R.all _)) (TC.trans f17.aB) f28
  have f19:=f19.aF
  have z17:=f17.size
  have z19:=f19.size
  have ZV:=(TC.trans f17.aB).trans f19.aB
  obtain⟨s',Hc⟩:∃s',cA aD s=some s':=by
   cases h5:cA aD s with
   |none=>rw[h5]at e3;cases e3
   |some s'=>exact⟨s',rfl⟩
  obtain⟨t',ZU⟩:∃t',cA aD t=some t':=by
   cases h5:cA aD t with
   |none=>rw[h5]at e4;cases e4
   |some s'=>exact⟨s',rfl⟩
  have W':=Wt.step ZU
  rw[Hc]at Y14 zD⊢
  rw[ZU]at Z17 zD⊢
  simp only[Option.getD_some]at Y14 Z17 zD⊢
  have G19:bU (fun k=>S k/\k<h.size) LS g aD:=G0.fr ZV fun k hk aI=>by omega
  refine ky G19 (Z17.no f19) W' rfl _ fun z2 h21 Z21 f21=>⟨z2,_,_,rfl,zD.aB f21,fun e5 b12 h24 akc f24 apt=> ?_,fun e5 b12 vu akc f26 tP=> ?_⟩
  ·have hz:sq aD (rs,x4) (2*a+2)=none:=by
    rw[sq,sq,ht]
    show(cA aD t).bind _=none
    rw[ZU]
    cases h5:cA aD t' with
    |none=>exact h5
    |some s'=>rw[h5]at e5;cases e5
   exact bad (fun m k R=>absurd hz (R.all _)) (ZV.trans f21.aB) f24
  obtain⟨t2,ht2⟩:∃t2,cA aD t'=some t2:=by
   cases h5:cA aD t' with
   |none=>rw[h5]at e5;cases e5
   |some s'=>exact⟨s',rfl⟩
  rw[ht2]at Z21 tP⊢
  simp only[Option.getD_some]at Z21 tP⊢
  have z21:=f21.size
  have z26:=f26.size
  have off:∀k,((S' k/\k<h.size)\/gM.size<=k)->¬In [b5,b4] k:=fun k hk aI=>by
   simp only[In,List.mem_cons,List.not_mem_nil,or_false]at aI
   rcases hk with hk|hk<;>rcases aI with rfl|rfl<;>omega
  have Y26:aQ (fun k=>(S' k/\k<h.size)\/gM.size<=k) vu y s'.1:=(((((Y14.no f16).no f17).no f19).no f21).mono fun k hk=>by rcases hk with hk|hk;exact hk;exact .inr (by omega)).fr f26 off
  have Z26:aQ (fun k=>(S' k/\k<h.size)\/gM.size<=k) vu z2 t2.1:=(Z21.mono fun k hk=>by rcases hk with(hk|hk)|hk;exact hk;exact .inr (by omega);exact .inr (by omega)).fr f26 off
  have HI:=(ZV.trans f21.aB).trans (f26.mono fun k _ hk=>by simp only[In,List.mem_cons,List.not_mem_nil,or_false]at hk;omega)
  refine xS Y26 Z26 s'.2 t2.2 _ fun Rp f27=>⟨_,rfl,tP.aB f27,?_⟩
  have z27:=f27.size
  have VR:sq aD (rs,x4) (a+1)=some s':=by rw[sq,hs];exact Hc
  have ht1:sq aD (rs,x4) (2*(a+1))=some t2:=by
   rw[show 2*(a+1)=2*a+1+1 by omega,sq,sq,ht]
   show((cA aD t).bind _)=_
   rw[ZU];exact ht2
  rw[aG _ (by omega) (by omega)]
  refine⟨n-1,by omega,a+1,s',t2,by omega,by omega,VR,ht1,rfl,rfl,Y26.no f27,Z26.no f27,fun e6=> ?_,fun e6 j h1 h2=> ?_,HI.trans f27.aB,by omega⟩
  ·simp only[decide_eq_true_eq]at e6
   exact⟨by omega,Prod.ext e6.2 e6.1⟩
  ·simp only[decide_eq_false_iff_not]at e6
   by_cases hj:j<=a
   ·exact hm0 hmf j h1 hj
   ·have:j=a+1:=by omega
    subst this
    rw[VR,ht1]
    exact fun hh=>by
     have:=Option.some.inj hh
     rw[this]at e6
     exact e6 ⟨rfl,rfl⟩
 ·simp only[decide_eq_false_iff_not]at e
  have hmf:met=false:=by simpa using e2
  have ha:a=2000:=by omega
  refine bad (fun m k R=> ?_) f13 f53
  obtain⟨j,j1,j2,_,j4⟩:=R.meets
  by_cases hc:k<=2000
  ·exact absurd j4 (hm0 hmf j j1 (by omega))
  ·omega
def dU(g:List (List Int))(rs:List Int)(p:Int):Int×Int×Bool:=if eX g rs p then FE g (rs,p)else(0,0,false)
theorem vV{S S':Nat->Prop}{h:Heap}{g w:Sl}{aD:List (List Int)}{rs:List Int}(G:bU S h g aD)(H:aQ S' h w rs)(p:Int)(K:Value->Heap->Prop)(HK:∀h',Fr No h h'->K (.tuple #[VI (dU aD rs p).1,VI (dU aD rs p).2.1,VB (dU aD rs p).2.2]) h'):aE Tryz.prog 136 #[.agg #[g.v],.agg #[w.v,VI p]] h K:=by
 unfold dU at HK
 refine afv g w p h K fun b1 b2 h2 eD dK f2 bW=> ?_
 have f2:=f2.aF
 refine fi (G.no f2) (H.no f2) p _ fun h3 f3=>⟨_,rfl,bW.aB f3,fun e=> ?_,fun e=> ?_⟩
 ·simp only[Bool.not_eq_true']at e
  rw[e]at HK
  exact HK h3 (f2.trans f3)
 simp only[Bool.not_eq_false']at e
 rw[if_pos e]at HK
 have W:=cV e
 have gr:=f2.trans f3
 refine IX (G.no gr) (H.no gr) W _ (fun hN h4 f4=>⟨_,w,p,_,rfl,(bW.aB f3).aB f4,fun _ b3 h6 iT f6 jJ=> ?_,fun e1=>by simp at e1⟩) (fun m k s R hk hs t h4 T4 f4=>⟨_,t,s.2,_,rfl,(bW.aB f3).aB f4,fun e1=> ?_,fun _ b3 h6 iT f6 jJ=> ?_⟩)
 ·have:=HK h6 ((gr.trans f4).trans f6.aF)
  rw[Ki hN]at this
  exact this
 ·have:=R.lt
  simp only[decide_eq_true_eq]at e1
  omega
 ·have:=HK h6 ((gr.trans f4).trans f6.aF)
  rw[FF R hk]at this
  exact this
theorem IZ{S S':Nat->Prop}{h:Heap}{g w:Sl}{aD:List (List Int)}{rs:List Int}(G:bU S h g aD)(H:aQ S' h w rs)(p:Int)(K:Value->Heap->Prop)(HK:∀h',Fr No h h'->K (.tuple #[VI (dU aD rs p).1,VI (dU aD rs p).2.1,VB (dU aD rs p).2.2]) h'):aE Tryz.prog 157 #[.agg #[g.v],.agg #[w.v,VI p]] h K:=by
 unfold dU at HK
 refine v157 g w p h K fun b1 b2 h2 eD dK f2 bW=> ?_
 have f2:=f2.aF
 refine sv (G.no f2) (H.no f2) p _ fun h3 f3=>⟨_,rfl,bW.aB f3,fun e=> ?_,fun e=> ?_⟩
 ·simp only[Bool.not_eq_true']at e
  rw[e]at HK
  exact HK h3 (f2.trans f3)
 simp only[Bool.not_eq_false']at e
 rw[if_pos e]at HK
 have gr:=f2.trans f3
 exact Og (G.no gr) (H.no gr) (cV e) _ fun h4 f4=>⟨_,_,_,rfl,(bW.aB f3).aB f4,HK h4 (gr.trans f4)⟩
theorem kW{g:List (List Int)}{rs:List Int}(p:Int)(m:Nat):∀k,cR g rs p (m+k)=cR g rs (cR g rs p m) k
 |0=>rfl
 |k+1=>by rw[<-Nat.add_assoc,cR,kW p m k];rfl
theorem L6{g:List (List Int)}{rs:List Int}{p:Int}{i d i' d':Nat}(L:vv g rs p i d)(L':vv g rs p i' d'):i=i'/\d=d':=by
 have a1:=L.d1
 have a2:=L'.d1
 have e:i+d=i'+d':=by
  rcases Nat.lt_trichotomy (i+d) (i'+d')with h|h|h
  ·exact absurd L.eq (L'.inj i (i+d) (by omega) h)
  ·exact h
  ·exact absurd L'.eq (L.inj i' (i'+d') (by omega) h)
 have e2:i=i':=by
  rcases Nat.lt_trichotomy i i' with h|h|h
  ·exact absurd (L.eq.trans (by rw[e];exact L'.eq.symm)) (L.inj i i' h (by omega))
  ·exact h
  ·exact absurd (L'.eq.trans (by rw[<-e];exact L.eq.symm)) (L.inj i' i h (by omega))
 exact⟨e2,by omega⟩
noncomputable def Qt(g:List (List Int))(rs:List Int)(p:Int):List Int×Bool:=
 @dite _ (0<=cR g rs p g.length/\∃t:Nat×Nat,vv g rs p t.1 t.2) (Classical.propDecidable _) (fun h=>((List.range (Classical.choose h.2).2).map fun r=>cR g rs p ((Classical.choose h.2).1+r),true)) fun _=>([],false)
theorem zE{g:List (List Int)}{rs:List Int}{p:Int}(h:cR g rs p g.length<0):Qt g rs p=([],false):=by
 unfold Qt
 rw[dif_neg (fun h2=>by have:=h2.1;omega)]
theorem zF{g:List (List Int)}{rs:List Int}{p:Int}(h:0<=cR g rs p g.length){i d:Nat}(L:vv g rs p i d):Qt g rs p=((List.range d).map fun r=>cR g rs p (i+r),true):=by
 have h2:0<=cR g rs p g.length/\∃t:Nat×Nat,vv g rs p t.1 t.2:=⟨h,(i,d),L⟩
 unfold Qt
 rw[dif_pos h2]
 obtain⟨e1,e2⟩:=L6 L (Classical.choose_spec h2.2)
 rw[<-e1,<-e2]
noncomputable def rC(g:List (List Int))(rs:List Int)(p:Int):List Int×Bool:=if eX g rs p then Qt g rs p else([],false)
theorem I3{S S':Nat->Prop}{h:Heap}{g w:Sl}{aD:List (List Int)}{rs:List Int}{a:Int}(G:bU S h g aD)(H:aQ S' h w rs)(W:gq aD (rs,a)){p:Int}(h0:0<=p)(h1:p<(aD.length:Int)){D:Nat}(D1:1<=D)(hD:cR aD rs p D=p)(hDm:D<=aD.length)(hp:0<=cR aD rs p aD.length)(K:Value->Heap->Prop)
 (HS:∀d t h',1<=d->cR aD rs p d=p->(∀j,1<=j->j<d->cR aD rs p j≠p)->aQ (fun _=>True) h' t ((List.range d).map fun r=>cR aD rs p r)->Fr No h h'->K t.v h'):aE Tryz.prog 231 #[.agg #[g.v],w.v,VI p] h K:=by
 refine ahu g w p h K fun b1 h2 eD f2 bW=> ?_
 have f2:=f2.aF
 have l1:b1<h2.size:=bW.head.lt
 have z2:=f2.size
 have Rm:=aO W.bF
 refine aP fu (fun k=>h2.size<=k) (fun _ h=>h) 1 (by omega) [VI p] rfl rfl fun t h4 n4 c4 o4 f4 m4 _=>⟨t,rfl,bW.aB f4,?_⟩
 have z4:=f4.size
 have jh:=f2.aA f4
 refine mh (G.no jh) (H.no jh) W h0 h1 _ fun h5 f5=>⟨_,rfl,(bW.aB f4).aB f5,?_⟩
 have z5:=f5.size
 have qV:=jh.aA f5
 refine⟨fun n x q h'=>∃m,1<=m/\m<=D/\n=D-m/\q=cR aD rs p m/\(∀j,1<=j->j<m->cR aD rs p j≠p)/\bL h' (fun k=>h2.size<=k) x ((List.range m).map fun r=>cR aD rs p r)/\Fr No h h'/\h2.size<=h'.size,⟨D-1,1,Nat.le_refl _,D1,rfl,rfl,fun j a b=>by omega,by show Ow _ _ _ _ _ _;simpa[cR]using Ow.no o4 f5,qV,by omega⟩,?_⟩
 rintro n x q h6 ⟨m,m1,m2,rfl,rfl,mj,o6,f6,z6⟩ jJ
 refine⟨fun e=> ?_,fun e=> ?_⟩
 ·have e:=bA e
  simp only[decide_eq_false_iff_not]at e
  have jI:m≠D:=fun h=>e (by rw[h];exact hD)
  refine aP fu (fun k=>h6.size<=k) (fun _ h=>h) 1 (by omega) [VI (cR aD rs p m)] rfl rfl fun u h7 n7 c7 o7 f7 m7 _=>⟨u,rfl,jJ.aB f7,?_⟩
  have z7:=f7.size
  have r7:aQ u.own h7 u [cR aD rs p m]:=o7.rd
  have hxn:x.n=m:=by have:=aQ.len (Ow.eW o6:aQ _ h6 x _);simpa using this
  have off:∀p,p∈[(b1,[g.v])]->¬(h2.size<=p.1):=fun p hp=>by
   simp only[List.mem_cons,List.not_mem_nil,or_false]at hp
   subst hp
   show¬(h2.size<=b1)
   omega
  refine bM fu (Ow.no o6 f7) (fun k hk=>by omega) r7 (fe _) (by have:=r7.len;simp at this;omega) fun y h8 n8 o8 f8 d8=>⟨y,rfl,(jJ.aB f7).fr f8 (fun p hp hk=>off p hp (o6.aH hk).1),?_⟩
  have z8:=f8.size
  have Fe:Fr No h h8:=(f6.aA f7).fresh f8 fun k hk=>by have:=(o6.aH hk).1;omega
  refine mh (G.no Fe) (H.no Fe) W (xV W h0 h1 hp _) (kJ W h0 h1 _).2 _ fun h9 f9=>⟨_,rfl,((jJ.aB f7).fr f8 (fun p hp hk=>off p hp (o6.aH hk).1)).aB f9,?_⟩
  have z9:=f9.size
  rw[<-List.map_append]at o8
  refine⟨D-(m+1),by omega,m+1,by omega,by omega,rfl,rfl,fun j a b=> ?_,?_,Fe.aA f9,by omega⟩
  ·by_cases hj:j<m
   ·exact mj j a hj
   ·obtain rfl:j=m:=by omega
    exact e
  ·rw[List.range_succ,List.map_append,List.map_cons,List.map_nil]
   exact Ow.no o8 f9
 ·have e:=aX e
  simp only[decide_eq_true_eq]at e
  exact HS m x h6 m1 e mj ((Ow.eW o6:aQ _ h6 x _).mono fun _ _=>trivial) f6
theorem Al{S S':Nat->Prop}{h:Heap}{g w:Sl}{aD:List (List Int)}{rs:List Int}{p:Int}(G:bU S h g aD)(H:aQ S' h w rs)(W:gq aD (rs,p))(K:Value->Heap->Prop)(HK:∀t h',aQ (fun _=>True) h' t (Qt aD rs p).1->Fr No h h'->K (.tuple #[t.v,VB (Qt aD rs p).2]) h'):aE Tryz.prog 184 #[.agg #[g.v],.agg #[w.v,VI p]] h K:=by
 have h0:0<=p:=W.lo
 have h1:p<(aD.length:Int):=W.hi
 refine agt g w p h K fun b1 b2 h2 eD dK f2 bW=> ?_
 have f2:=f2.aF
 refine Lk (G.no f2) (H.no f2) W h0 h1 _ (fun hn h3 f3=>⟨aC,false,rfl,bW.aB f3,fun _=> ?_,fun e=>by simp at e⟩) fun hn t xs h3 hx r3 f3=>⟨t,true,rfl,bW.aB f3,fun e=>by simp at e,fun _=> ?_⟩
 ·rw[zE hn]at HK
  exact HK aC h3 ((Ow.nil _ _ _ _:bL h3 (fun _=>True) aC []).eW) (f2.aA f3)
 refine⟨fun n q h'=>∃m,m<=aD.length/\n=aD.length-m/\q=cR aD rs p m/\(∀j,j<m->cR aD rs p j∉xs)/\Fr No h h'/\aQ (fun _=>True) h' t xs,⟨aD.length,0,by omega,rfl,rfl,fun j hj=>by omega,f2.aA f3,r3⟩,?_⟩
 rintro n q h4 ⟨m,hm,rfl,rfl,mj,f4,r4⟩ dS
 refine Rv r4 _ _ ⟨_,rfl,dS,fun e=> ?_,fun e=> ?_⟩
 ·have e:=bA e
  simp only[decide_eq_false_iff_not]at e
  have JK:m<aD.length:=by
   by_cases hx2:m<aD.length
   ·exact hx2
   ·obtain rfl:m=aD.length:=by omega
    exact absurd ((hx _).2 ⟨_,Nat.le_refl _,rfl⟩) e
  refine mh (G.no f4) (H.no f4) W (xV W h0 h1 hn _) (kJ W h0 h1 _).2 _ fun h6 f6=>⟨_,rfl,dS.aB f6,aD.length-(m+1),by omega,m+1,by omega,rfl,rfl,fun j hj=> ?_,f4.aA f6,r4.no f6⟩
  by_cases HL:j<m
  ·exact mj j HL
  ·obtain rfl:j=m:=by omega
   exact e
 ·have e:=aX e
  simp only[decide_eq_true_eq]at e
  obtain⟨k0,hk0,ek0⟩:=(hx _).1 e
  obtain⟨i9,d9,c1,c2,c3⟩:=sB W h0 h1 hn
  have xW:cR aD rs p (m+d9)=cR aD rs p m:=by
   have e1:=mg ek0 d9
   have e2:=sA c3 (k0-i9) 1
   rw[show i9+(k0-i9)=k0 by omega,Nat.mul_one]at e2
   rw[<-e1,e2,ek0]
  refine I3 (G.no f4) (H.no f4) W (xV W h0 h1 hn m) (kJ W h0 h1 m).2 (D:=d9) c1 (by rw[<-kW];exact xW) (by omega) (by rw[<-kW];exact xV W h0 h1 hn _) _ fun d t2 h7 d1 dd dj r7 f7=>⟨t2,rfl,dS.aB f7,?_⟩
  have L:vv aD rs p m d:=⟨d1,by rw[kW];exact dd.symm,fun a b ab bm ee=>by
   by_cases ha:a<m
   ·refine mj a ha ((hx _).2 ⟨a+(b-a)*aD.length,?_,?_⟩)
    ·have:1*aD.length<=(b-a)*aD.length:=Nat.mul_le_mul_right _ (by omega)
     omega
    ·have:=sA (g:=aD) (rs:=rs) (p:=p) (i:=a) (d:=b-a) (by rw[show a+(b-a)=b by omega];exact ee) 0 aD.length
     simpa using this
   ·have e1:=mg ee (m+d-b)
    rw[show b+(m+d-b)=m+d by omega,kW p m d,dd]at e1
    refine dj (a+(m+d-b)-m) (by omega) (by omega) ?_
    rw[<-kW,show m+(a+(m+d-b)-m)=a+(m+d-b) by omega]
    exact e1⟩
  rw[zF hn L]at HK
  refine HK t2 h7 ?_ (f4.aA f7)
  simp only[kW]
  exact r7
theorem uN{S S':Nat->Prop}{h:Heap}{g w:Sl}{aD:List (List Int)}{rs:List Int}(G:bU S h g aD)(H:aQ S' h w rs)(p:Int)(K:Value->Heap->Prop)(HK:∀t h',aQ (fun _=>True) h' t (rC aD rs p).1->Fr No h h'->K (.tuple #[t.v,VB (rC aD rs p).2]) h'):aE Tryz.prog 159 #[.agg #[g.v],.agg #[w.v,VI p]] h K:=by
 refine v159 g w p h K fun b1 b2 h2 eD dK f2 bW=> ?_
 have f2:=f2.aF
 refine sv (G.no f2) (H.no f2) p _ fun h3 f3=>⟨_,rfl,bW.aB f3,fun e=> ?_,fun e=> ?_⟩
 ·have er:rC aD rs p=([],false):=by unfold rC;rw[if_neg (by rw[bA e];simp)]
  rw[er]at HK
  exact HK aC h3 ((Ow.nil _ _ _ _:bL h3 (fun _=>True) aC []).eW) (f2.aA f3)
 have e:=aX e
 have W:=cV e
 have er:rC aD rs p=Qt aD rs p:=by unfold rC;rw[if_pos e]
 rw[er]at HK
 have gr:=f2.aA f3
 refine CG (G.no gr) (H.no gr) W W.lo W.hi _ (fun hn h4 f4=>⟨aC,false,rfl,(bW.aB f3).aB f4,?_⟩) fun hn i d t h4 L _ r4 f4=>⟨t,true,rfl,(bW.aB f3).aB f4,?_⟩
 ·rw[zE hn]at HK
  exact HK aC h4 ((Ow.nil _ _ _ _:bL h4 (fun _=>True) aC []).eW) (gr.aA f4)
 ·rw[zF hn L]at HK
  exact HK t h4 r4 (gr.aA f4)
theorem uO{S S':Nat->Prop}{h:Heap}{g w:Sl}{aD:List (List Int)}{rs:List Int}(G:bU S h g aD)(H:aQ S' h w rs)(p:Int)(K:Value->Heap->Prop)(HK:∀t h',aQ (fun _=>True) h' t (rC aD rs p).1->Fr No h h'->K (.tuple #[t.v,VB (rC aD rs p).2]) h'):aE Tryz.prog 138 #[.agg #[g.v],.agg #[w.v,VI p]] h K:=by
 refine v138 g w p h K fun b1 b2 h2 eD dK f2 bW=> ?_
 have f2:=f2.aF
 refine fi (G.no f2) (H.no f2) p _ fun h3 f3=>⟨_,rfl,bW.aB f3,fun e=> ?_,fun e=> ?_⟩
 ·have er:rC aD rs p=([],false):=by unfold rC;rw[if_neg (by rw[bA e];simp)]
  rw[er]at HK
  exact HK aC h3 ((Ow.nil _ _ _ _:bL h3 (fun _=>True) aC []).eW) (f2.aA f3)
 have e:=aX e
 have W:=cV e
 have er:rC aD rs p=Qt aD rs p:=by unfold rC;rw[if_pos e]
 rw[er]at HK
 have gr:=f2.aA f3
 exact Al (G.no gr) (H.no gr) W _ fun t h4 r4 f4=>⟨t,_,rfl,(bW.aB f3).aB f4,HK t h4 r4 (gr.aA f4)⟩
def lC(g:List (List Int))(s:Int):List Int:=(List.range g.length).map fun(i:Nat)=>if(i:Int)=s then 0 else((g.getD i []).length:Int)-1
def py(g:List (List Int))(s:Int):List Int×Bool:=if oR g s=true then(lC g s,true)else([],false)
theorem mJ(g:List (List Int))(s:Int):(lC g s).length=g.length:=by simp[lC]
theorem uP{g:List (List Int)}{s:Int}{i:Nat}(h:i<g.length):(lC g s)[i]'(by rw[mJ];exact h)=if(i:Int)=s then 0 else(g[i].length:Int)-1:=by
 unfold lC
 rw[List.getElem_map,List.getElem_range,aS h]
theorem Gi{g:List (List Int)}{s:Int}(h:oR g s=true):∀x,x∈lC g s->0<=x/\x<=5:=fun x hx=>by
 obtain⟨i,hi,rfl⟩:=List.getElem_of_mem hx
 have hH:i<g.length:=by rw[<-mJ g s];exact hi
 unfold oR at h
 rw[Bool.and_eq_true,Bool.and_eq_true,aY]at h
 rw[uP hH]
 split
 ·exact⟨by omega,by omega⟩
 ·rename_i dZ
  have:=HM h.1.2.1 h.2 hH dZ (by omega)
  have:=(aT h.1.1 (List.getElem_mem hH)).1
  omega
theorem I4{S:Nat->Prop}{h:Heap}{g:Sl}{aD:List (List Int)}(G:bU S h g aD)(hg:aM aD=true)(s:Int)(K:Value->Heap->Prop)(HK:∀t h',bL h' (Iv h.size h'.size) t (lC aD s)->Fr No h h'->K t.v h'):aE Tryz.prog 215 #[.agg #[g.v],VI s] h K:=by
 have gl:=aO hg
 have gn:=G.len
 refine ag9 g s h K fun b1 h1 eD f1 bY=> ?_
 have f1:=f1.aF
 have z1:=f1.size
 have fl:=mJ aD s
 have l1:b1<h1.size:=bY.head.lt
 refine aP fu (fun k=>h1.size<=k) (fun _ h=>h) 0 (by omega) [] rfl rfl fun o h2 n2 c2 o2 f2 m2 _=>⟨o,rfl,bY.aB f2,?_⟩
 refine⟨fun n x i h'=>0<=i/\i+n=(aD.length:Int)/\bL h' (fun k=>h1.size<=k) x ((lC aD s).take i.toNat)/\Fr (fun k=>h1.size<=k) h1 h',⟨aD.length,by omega,by omega,by show Ow _ _ _ _ _ _;simpa using o2,f2.aB⟩,?_⟩
 rintro n x i h3 ⟨i0,i1,o3,f3⟩ cF
 have F3:Fr No h h3:=f1.fresh f3 fun k hk=>by omega
 have z3:=f3.size
 have G3:=G.no F3
 refine⟨fun e=> ?_,fun e=> ?_⟩
 ·have hi:=G3.lt e
  have wB:i.toNat<aD.length:=by omega
  obtain⟨si,c1,r1⟩:=G3.get i0 hi
  have rn:=r1.len
  have hk:=(aT hg (List.getElem_mem wB)).1
  have ex:=uP (s:=s) wB
  have et:=dX (lC aD s) i0 (by omega)
  have ei:((i.toNat:Nat):Int)=i:=by omega
  refine⟨G3.bC i0 hi,si,c1,fun e2=> ?_,fun e2=> ?_⟩
  ·simp only[decide_eq_true_eq]at e2
   refine mf (F:=fun k=>h1.size<=k) o3 (fun k hk=>by omega) cF (fun p hp=>by simp at hp;subst hp;show¬h1.size<=b1;omega) (by rw[List.length_take];omega) _ fun t h4 o4 f4 dS=> ?_
   rw[aG _ (by omega) (by omega)]
   refine⟨n-1,by omega,by omega,by omega,?_,f3.trans f4⟩
   rw[et,ex,ei,if_pos e2]
   exact o4
  ·simp only[decide_eq_false_iff_not]at e2
   rw[rn,aG _ (by omega) (by omega),aG _ (by omega) (by omega)]
   refine mf (F:=fun k=>h1.size<=k) o3 (fun k hk=>by omega) cF (fun p hp=>by simp at hp;subst hp;show¬h1.size<=b1;omega) (by rw[List.length_take];omega) _ fun t h4 o4 f4 dS=> ?_
   refine⟨n-1,by omega,by omega,by omega,?_,f3.trans f4⟩
   rw[et,ex,ei,if_neg e2]
   exact o4
 ·simp only[decide_eq_false_iff_not]at e
  rw[List.take_of_length_le (by omega)]at o3
  exact HK x h3 (o3.mono fun k CX hk=>⟨by omega,(Ow.aH o3 CX).2⟩) F3
theorem Pz{S:Nat->Prop}{h:Heap}{g:Sl}{aD:List (List Int)}(G:bU S h g aD)(hg:aM aD=true)(s:Int)(K:Value->Heap->Prop)(HK:∀t h',bL h' (Iv h.size h'.size) t (lC aD s)->Fr No h h'->K t.v h'):aE Tryz.prog 188 #[.agg #[g.v],VI s] h K:=by
 have gl:=aO hg
 have gn:=G.len
 refine agB g s h K fun b1 h1 eD f1 bY=> ?_
 have f1:=f1.aF
 have z1:=f1.size
 have fl:=mJ aD s
 have l1:b1<h1.size:=bY.head.lt
 refine⟨fun n x i h'=>0<=i/\i+n=(aD.length:Int)/\bL h' (fun k=>h1.size<=k) x ((lC aD s).take i.toNat)/\Fr (fun k=>h1.size<=k) h1 h',⟨aD.length,by omega,by omega,Ow.nil _ _ _ _,Fr.refl _ _⟩,?_⟩
 rintro n x i h3 ⟨i0,i1,o3,f3⟩ cF
 have F3:Fr No h h3:=f1.fresh f3 fun k hk=>by omega
 have z3:=f3.size
 have G3:=G.no F3
 refine⟨fun e=> ?_,fun e=> ?_⟩
 ·have hi:=G3.lt e
  have wB:i.toNat<aD.length:=by omega
  obtain⟨si,c1,r1⟩:=G3.get i0 hi
  have rn:=r1.len
  have hk:=(aT hg (List.getElem_mem wB)).1
  have ex:=uP (s:=s) wB
  have et:=dX (lC aD s) i0 (by omega)
  have ei:((i.toNat:Nat):Int)=i:=by omega
  refine⟨G3.bC i0 hi,si,c1,fun y h'=>y=(if i=s then 0 else(aD[i.toNat].length:Int)-1)/\h'=h3,⟨fun e2=> ?_,fun e2=> ?_⟩,?_⟩
  ·simp only[decide_eq_true_eq]at e2
   exact⟨by rw[if_pos e2],rfl⟩
  ·simp only[decide_eq_false_iff_not]at e2
   rw[rn,aG _ (by omega) (by omega),if_neg e2]
   exact⟨rfl,rfl⟩
  rintro y h4 ⟨rfl,rfl⟩ dS
  refine mf (F:=fun k=>h1.size<=k) o3 (fun k hk=>by omega) cF (fun p hp=>by simp at hp;subst hp;show¬h1.size<=b1;omega) (by rw[List.length_take];omega) _ fun t h5 o5 f5 gj=> ?_
  rw[aG _ (by omega) (by omega)]
  refine⟨n-1,by omega,by omega,by omega,?_,f3.trans f5⟩
  rw[et,ex,ei]
  exact o5
 ·simp only[decide_eq_false_iff_not]at e
  rw[List.take_of_length_le (by omega)]at o3
  exact HK x h3 (o3.mono fun k CX hk=>⟨by omega,(Ow.aH o3 CX).2⟩) F3
theorem I5{S:Nat->Prop}{h:Heap}{g:Sl}{aD:List (List Int)}(G:bU S h g aD)(s:Int)(K:Value->Heap->Prop)(HK:∀t h',bL h' (Iv h.size h'.size) t (py aD s).1->Fr No h h'->K (.tuple #[t.v,VB (py aD s).2]) h'):aE Tryz.prog 166 #[.agg #[g.v],VI s] h K:=by
 refine af2 g s h K fun b1 h1 eD f1 bY=> ?_
 have f1:=f1.aF
 refine Ls (G.no f1) s _ fun h2 f2=>⟨_,rfl,bY.aB f2,fun e=> ?_,fun e=> ?_⟩
 ·unfold py at HK
  rw[if_neg (by simpa using e)]at HK
  exact HK aC h2 (Ow.nil _ _ _ _) (f1.aA f2)
 ·have e':oR aD s=true:=by simpa using e
  unfold py at HK
  rw[if_pos e']at HK
  have z:=(f1.aA f2).size
  refine I4 ((G.no f1).no f2) (by unfold oR at e';rw[Bool.and_eq_true,Bool.and_eq_true]at e';exact e'.1.1) s _ fun t h3 o3 f3=>⟨t,rfl,(bY.aB f2).aB f3,?_⟩
  exact HK t h3 (o3.Qe z (Nat.le_refl _)) ((f1.aA f2).aA f3)
theorem vW{S:Nat->Prop}{h:Heap}{g:Sl}{aD:List (List Int)}(G:bU S h g aD)(s:Int)(K:Value->Heap->Prop)(HK:∀t h',bL h' (Iv h.size h'.size) t (py aD s).1->Fr No h h'->K (.tuple #[t.v,VB (py aD s).2]) h'):aE Tryz.prog 140 #[.agg #[g.v],VI s] h K:=by
 refine afB g s h K fun b1 h1 eD f1 bY=> ?_
 have f1:=f1.aF
 refine NV (G.no f1) s _ fun h2 f2=>⟨_,rfl,bY.aB f2,fun e=> ?_,fun e=> ?_⟩
 ·unfold py at HK
  rw[if_neg (by simpa using e)]at HK
  exact HK aC h2 (Ow.nil _ _ _ _) (f1.aA f2)
 ·have e':oR aD s=true:=by simpa using e
  unfold py at HK
  rw[if_pos e']at HK
  have z:=(f1.aA f2).size
  refine Pz ((G.no f1).no f2) (by unfold oR at e';rw[Bool.and_eq_true,Bool.and_eq_true]at e';exact e'.1.1) s _ fun t h3 o3 f3=>⟨t,rfl,(bY.aB f2).aB f3,?_⟩
  exact HK t h3 (o3.Qe z (Nat.le_refl _)) ((f1.aA f2).aA f3)
def iX(b:Nat):Nat->Nat
 |0=>1
 |n+1=>iX b n*b
def bB(b:Nat):Nat->Nat
 |0=>1
 |n+1=>bB b n+iX b (n+1)
theorem sW(b:Nat):∀n,bB b (n+1)=b*bB b n+1
 |0=>by simp[bB,iX,Nat.add_comm]
 |n+1=>by
  have e:=sW b n
  show bB b (n+1)+iX b (n+1)*b=b*(bB b n+iX b (n+1))+1
  rw[e,Nat.mul_add,Nat.mul_comm _ b]
  omega
theorem fU:∀b,b<4->∀d,d<7->iX b d<=bB b d/\bB b d<=1093:=by decide
def fK(b:Nat)(x:Nat):Nat:=if x=0\/b=0 then 0 else fK b ((x-1)/b)+1
termination_by x
decreasing_by
 rename_i h
 have:=Nat.div_le_self (x-1) b
 omega
theorem mK(b:Nat):fK b 0=0:=by rw[fK];simp
theorem I6{b x:Nat}(hb:b≠0)(hx:x≠0):fK b x=fK b ((x-1)/b)+1:=by
 rw[fK,if_neg (by omega)]
theorem PA{b x r:Nat}(h1:1<=r)(h2:r<=b):fK b (x*b+r)=fK b x+1:=by
 rw[I6 (by omega) (by omega)]
 congr 2
 rw[show x*b+r-1=(r-1)+x*b by omega,Nat.add_mul_div_right _ _ (by omega),Nat.div_eq_of_lt (by omega),Nat.zero_add]
theorem PB{b:Nat}(hb:b≠0):∀{d x:Nat},x<bB b d->fK b x<=d
 |0,x,h=>by
  have:x=0:=by rw[bB]at h;omega
  subst this
  rw[mK];exact Nat.le_refl _
 |d+1,x,h=>by
  by_cases e:x=0
  ·subst e;rw[mK];exact Nat.zero_le _
  ·rw[I6 hb e]
   have:(x-1)/b<bB b d:=by
    rw[Nat.div_lt_iff_lt_mul (by omega),Nat.mul_comm]
    rw[sW]at h
    omega
   have:=PB hb this
   omega
def L7(f:Nat->Nat)(b:Int):Nat->List Int->Nat
 |_,[]=>0
 |i,r::rs=>f i*(b-r).toNat+L7 f b (i+1) rs
theorem Gj(f:Nat->Nat)(b v:Int):∀(rs:List Int)(i x:Nat)(h:x<rs.length),L7 f b i (rs.set x v)+f (i+x)*(b-rs[x]).toNat=L7 f b i rs+f (i+x)*(b-v).toNat
 |r::rs,i,0,h=>by simp only[List.set_cons_zero,L7,List.getElem_cons_zero,Nat.add_zero];omega
 |r::rs,i,x+1,h=>by
  have ih:=Gj f b v rs (i+1) x (by simpa using h)
  rw[show i+1+x=i+(x+1) by omega]at ih
  simp only[List.set_cons_succ,L7,List.getElem_cons_succ]
  omega
def wE(b d:Nat)(a:Int):Nat:=if a<0 then 0 else(b+2)^(d+2)-(b+2)^(d+1-fK b a.toNat)
def Gk(b d:Nat)(rs:List Int)(a:Int):Nat:=L7 (fun x=>(b+2)^(d+1-fK b x)) b 0 rs+wE b d a
def vX(b:Nat)(a r:Int):Int:=if 0<r then a*b+r else if a=0 then-1 else(a-1)/b
def PC(b first:Nat):Nat->List Int->Int->List Int×Int
 |0,rs,a=>(rs,a)
 |n+1,rs,a=>if 0<=a/\a<first then
  PC b first n (rs.set a.toNat ((rs.getD a.toNat 0+1)%(b+1))) (vX b a ((rs.getD a.toNat 0+1)%(b+1)))
  else(rs,a)
theorem KC(b first:Nat)(n:Nat)(rs:List Int)(a:Int)(h:¬(0<=a/\a<first)):PC b first n rs a=(rs,a):=by
 cases n with
 |zero=>rfl
 |succ n=>rw[PC,if_neg h]
theorem PD{b d:Nat}(hb:0<b){rs:List Int}(hl:rs.length=bB b (d-1))(hd:0<d)(hr:∀r,r∈rs->0<=r/\r<=b){a:Int}(h0:0<=a)(h1:a<bB b (d-1)){r:Int}(e:r=(rs.getD a.toNat 0+1)%(b+1)):
 0<=r/\r<=b/\(∀x,x∈rs.set a.toNat r->0<=x/\x<=b)/\Gk b d (rs.set a.toNat r) (vX b a r)<Gk b d rs a/\fK b a.toNat<d/\
 (0<r->fK b (a*b+r).toNat=fK b a.toNat+1/\0<a*b+r/\a*b+r<=bB b d)/\(¬0<r->a≠0->fK b a.toNat=fK b ((a-1)/b).toNat+1/\0<=(a-1)/b/\(a-1)/b<a):=by
 have ha:a.toNat<rs.length:=by omega
 have eg:rs.getD a.toNat 0=rs[a.toNat]:=by rw[List.getD_eq_getElem?_getD,List.getElem?_eq_getElem ha,Option.getD_some]
 have hq:=hr _ (List.getElem_mem ha)
 rw[eg]at e
 have r0:0<=r:=by rw[e];exact Int.emod_nonneg _ (by omega)
 have r1:r<b+1:=by rw[e];exact Int.emod_lt_of_pos _ (by omega)
 have hm:∀x,x∈rs.set a.toNat r->0<=x/\x<=b:=fun x hx=>by
  rcases List.mem_or_eq_of_mem_set hx with hx|rfl
  ·exact hr x hx
  ·exact⟨r0,by omega⟩
 have lv:fK b a.toNat<d:=by
  have:=PB (b:=b) (by omega) (d:=d-1) (x:=a.toNat) (by omega)
  omega
 have ps:=Gj (fun x=>(b+2)^(d+1-fK b x)) b r rs 0 a.toNat ha
 simp only[Nat.zero_add]at ps
 obtain⟨A,hA⟩:∃A:Nat,a=A:=⟨a.toNat,by omega⟩
 obtain⟨R,hR⟩:∃R:Nat,r=R:=⟨r.toNat,by omega⟩
 have VW:0<r->fK b (a*b+r).toNat=fK b a.toNat+1/\0<a*b+r/\a*b+r<=bB b d:=fun h=>by
  have e1:a*b+r=((A*b+R:Nat):Int):=by rw[hA,hR];simp
  rw[e1]
  refine⟨?_,by omega,?_⟩
  ·rw[Int.toNat_natCast,PA (by omega) (by omega),hA,Int.toNat_natCast]
  ·have e2:bB b d=b*bB b (d-1)+1:=by rw[<-sW,Nat.sub_add_cancel hd]
   have:A+1<=bB b (d-1):=by omega
   have:=Nat.mul_le_mul_left b this
   have e3:b*(A+1)=A*b+b:=by rw[Nat.mul_add,Nat.mul_one,Nat.mul_comm]
   omega
 have hup:¬0<r->a≠0->fK b a.toNat=fK b ((a-1)/b).toNat+1/\0<=(a-1)/b/\(a-1)/b<a:=fun h dZ=>by
  have e1:(a-1)/b=(((A-1)/b:Nat):Int):=by rw[hA,show(A:Int)-1=((A-1:Nat):Int) by omega];exact(Int.natCast_ediv _ _).symm
  rw[e1,Int.toNat_natCast,show a.toNat=A by omega]
  have:=Nat.div_le_self (A-1) b
  have hl:=I6 (b:=b) (x:=A) (by omega) (by omega)
  generalize (A-1)/b=q at*
  exact⟨hl,by omega,by omega⟩
 refine⟨r0,by omega,hm,?_,lv,VW,hup⟩
 have W:∀k,k<=d+1->(b+2)^(k+1)=(b+2)^k*b+2*(b+2)^k:=fun k _=>by rw[Nat.pow_succ,Nat.mul_add,Nat.mul_comm 2]
 have P:∀k,0<(b+2)^k:=fun k=>Nat.pow_pos (by omega)
 have M:∀k,k<=d+2->(b+2)^k<=(b+2)^(d+2):=fun k hk=>Nat.pow_le_pow_right (by omega) hk
 unfold Gk
 by_cases h:0<r
 ·obtain⟨g1,g2,g3⟩:=VW h
  have er:r=rs[a.toNat]+1:=by
   by_cases hh:rs[a.toNat]=b
   ·rw[hh,Int.emod_self]at e;omega
   ·rw[e,Int.emod_eq_of_lt (by omega) (by omega)]
  have e4:(b-rs[a.toNat]:Int).toNat=(b-r:Int).toNat+1:=by omega
  rw[e4,Nat.mul_add,Nat.mul_one]at ps
  have:wE b d (vX b a r)=(b+2)^(d+2)-(b+2)^(d+1-(fK b a.toNat+1)):=by
   unfold vX wE
   rw[if_pos h,if_neg (by omega),g1]
  have w0:wE b d a=(b+2)^(d+2)-(b+2)^(d+1-fK b a.toNat):=by unfold wE;rw[if_neg (by omega)]
  have m1:=M (d+1-fK b a.toNat) (by omega)
  have m2:=M (d+1-(fK b a.toNat+1)) (by omega)
  have p1:=P (d+1-(fK b a.toNat+1))
  rw[this,w0]
  omega
 ·have er:rs[a.toNat]=b:=by
   by_cases hh:rs[a.toNat]=b
   ·exact hh
   ·rw[Int.emod_eq_of_lt (by omega) (by omega)]at e;omega
  have e4:(b-rs[a.toNat]:Int).toNat=0:=by omega
  have e5:(b-r:Int).toNat=b:=by omega
  rw[e4,e5,Nat.mul_zero]at ps
  have w0:wE b d a=(b+2)^(d+2)-(b+2)^(d+1-fK b a.toNat):=by unfold wE;rw[if_neg (by omega)]
  have q1:=P (d+1-fK b a.toNat)
  by_cases ha0:a=0
  ·have:wE b d (vX b a r)=0:=by unfold vX wE;rw[if_neg h,if_pos ha0,if_pos (by omega)]
   rw[this,w0]
   have l0:fK b a.toNat=0:=by rw[ha0];exact mK b
   have w1:(b+2)^(d+2)=_:=W (d+1) (by omega)
   rw[l0]at ps q1⊢
   rw[Nat.sub_zero]at ps q1⊢
   omega
  ·obtain⟨g1,g2,g3⟩:=hup h ha0
   have:wE b d (vX b a r)=(b+2)^(d+2)-(b+2)^(d+1-fK b a.toNat+1):=by
    unfold vX wE
    rw[if_neg h,if_neg ha0,if_neg (by omega),show d+1-fK b ((a-1)/b).toNat=d+1-fK b a.toNat+1 by omega]
   rw[this,w0]
   have w1:=W (d+1-fK b a.toNat) (by omega)
   have m1:=M (d+1-fK b a.toNat+1) (by omega)
   omega
def UH(b d:Nat)(rs:List Int):List Int×Int:=PC b (bB b (d-1)) (Gk b d rs 0) rs 0
def nG(b d:Nat):Nat->List Int->List Int×List Int
 |0,rs=>(rs,[])
 |n+1,rs=>((UH b d (nG b d n rs).1).1,(nG b d n rs).2++[if(UH b d (nG b d n rs).1).2= -1 then 0 else 1])
def qp(b d k n:Int):Bool:=decide (2<=b/\b<=3/\1<=d/\d<=6)&&decide ((bB b.toNat d.toNat:Int)<=130)&&decide (0<=k/\k<=b/\0<=n/\n<=200)
def zG(b d k n:Int):Int×Bool:=if qp b d k n=true then((nG b.toNat d.toNat n.toNat (List.replicate (bB b.toNat (d.toNat-1)) k)).2.sum,true)else(0,false)
def Dj(a b:Sl):Prop:=∀k,a.own k->¬b.own k
structure lg(lo:Nat)(h:Heap)(b1:Nat)(f3 f4 f5 f6:Sl)(rs es ts vs:List Int):Prop where
 r:bL h (fun k=>lo<=k) f3 rs
 e:bL h (fun k=>lo<=k) f4 es
 t:bL h (fun k=>lo<=k) f5 ts
 v:bL h (fun k=>lo<=k) f6 vs
 re:Dj f3 f4
 rt:Dj f3 f5
 rv:Dj f3 f6
 et:Dj f4 f5
 ev:Dj f4 f6
 tv:Dj f5 f6
 nr:¬f3.own b1
 ne:¬f4.own b1
 nt:¬f5.own b1
 nv:¬f6.own b1
 lb:lo<=b1
 hb:b1<h.size
theorem Dj.symm{a b:Sl}(H:Dj a b):Dj b a:=fun k hb ha=>H k ha hb
theorem lg.PE{lo:Nat}{h:Heap}{b1:Nat}{f3 f4 f5 f6:Sl}{rs es ts vs:List Int}(S:lg lo h b1 f3 f4 f5 f6 rs es ts vs):lg lo h b1 f3 f5 f4 f6 rs ts es vs:=⟨S.r,S.t,S.e,S.v,S.rt,S.re,S.rv,S.et.symm,S.tv,S.ev,S.nr,S.nt,S.ne,S.nv,S.lb,S.hb⟩
theorem lg.iN{lo:Nat}{h:Heap}{b1:Nat}{f3 f4 f5 f6:Sl}{rs es ts vs:List Int}(S:lg lo h b1 f3 f4 f5 f6 rs es ts vs):lg lo h b1 f4 f3 f5 f6 es rs ts vs:=⟨S.e,S.r,S.t,S.v,S.re.symm,S.et,S.ev,S.rt,S.rv,S.tv,S.ne,S.nr,S.nt,S.nv,S.lb,S.hb⟩
theorem lg.pz{lo:Nat}{h:Heap}{b1:Nat}{f3 f4 f5 f6:Sl}{rs es ts vs:List Int}(S:lg lo h b1 f3 f4 f5 f6 rs es ts vs):lg lo h b1 f6 f4 f5 f3 vs es ts rs:=⟨S.v,S.e,S.t,S.r,S.ev.symm,S.tv.symm,S.rv.symm,S.et,S.re.symm,S.rt.symm,S.nv,S.ne,S.nt,S.nr,S.lb,S.hb⟩
theorem lg.no{lo:Nat}{h h':Heap}{b1:Nat}{f3 f4 f5 f6:Sl}{rs es ts vs:List Int}(S:lg lo h b1 f3 f4 f5 f6 rs es ts vs)(f:Fr No h h'):lg lo h' b1 f3 f4 f5 f6 rs es ts vs:=⟨Ow.no S.r f,Ow.no S.e f,Ow.no S.t f,Ow.no S.v f,S.re,S.rt,S.rv,S.et,S.ev,S.tv,S.nr,S.ne,S.nt,S.nv,S.lb,Nat.lt_of_lt_of_le S.hb f.size⟩
theorem lg.box{lo:Nat}{h h':Heap}{b1:Nat}{f3 f4 f5 f6:Sl}{rs es ts vs:List Int}(S:lg lo h b1 f3 f4 f5 f6 rs es ts vs)(f:Fr (fun k=>k=b1) h h'):lg lo h' b1 f3 f4 f5 f6 rs es ts vs:=⟨Ow.fr S.r f fun k hk e=>S.nr (e▸hk),Ow.fr S.e f fun k hk e=>S.ne (e▸hk),Ow.fr S.t f fun k hk e=>S.nt (e▸hk),Ow.fr S.v f fun k hk e=>S.nv (e▸hk),S.re,S.rt,S.rv,S.et,S.ev,S.tv,S.nr,S.ne,S.nt,S.nv,S.lb,Nat.lt_of_lt_of_le S.hb f.size⟩
theorem lg.L8{lo:Nat}{h h':Heap}{b1:Nat}{f3 f4 f5 f6:Sl}{rs es ts vs:List Int}(S:lg lo h b1 f3 f4 f5 f6 rs es ts vs){B:List Nat}(f:Fr (In B) h h')(hB:∀b,b∈B->b=b1):lg lo h' b1 f3 f4 f5 f6 rs es ts vs:=S.box (f.mono fun k _ hk=>hB k hk)
theorem lg.Gl{lo:Nat}{h:Heap}{b1:Nat}{f3 f4 f5 f6:Sl}{rs es ts vs:List Int}(S:lg lo h b1 f3 f4 f5 f6 rs es ts vs){i:Int}(h0:0<=i)(h1:i<(rs.length:Int))(v:Int):
 dN f3 i/\aR h (f3.at i 1)=some (VI (rs.getD i.toNat 0))/\dT h (f3.at i 1)/\lg lo (Mx.cL h (f3.at i 1) (VI v)) b1 f3 f4 f5 f6 (rs.set i.toNat v) es ts vs/\Fr f3.own h (Mx.cL h (f3.at i 1) (VI v)):=by
 have hn:f3.n=rs.length:=by have:=S.r.rd.len;simpa using this.symm
 obtain⟨w1,w2,w3⟩:=S.r.eY h0 (by omega) (VI v)
 have R:aQ f3.own h f3 rs:=S.r.rd
 have eg:rs.getD i.toNat 0=rs[i.toNat]'(by omega):=by rw[List.getD_eq_getElem?_getD,List.getElem?_eq_getElem (by omega),Option.getD_some]
 refine⟨R.bC h0 h1,by rw[eg];exact R.get h0 h1,w1,⟨?_,S.e.fr w3 fun k hk aI=>S.re k aI hk,S.t.fr w3 fun k hk aI=>S.rt k aI hk,S.v.fr w3 fun k hk aI=>S.rv k aI hk,S.re,S.rt,S.rv,S.et,S.ev,S.tv,S.nr,S.ne,S.nt,S.nv,S.lb,Nat.lt_of_lt_of_le S.hb w3.size⟩,w3⟩
 show Ow _ _ _ _ _ _
 rw[<-List.map_set]at w2
 exact w2
theorem lg.D5{lo:Nat}{h:Heap}{b1:Nat}{f3 f4 f5 f6:Sl}{rs es ts vs:List Int}(S:lg lo h b1 f3 f4 f5 f6 rs es ts vs)(vO:lo<=h.size){T:Nat->Prop}{x:Sl}{v:Int}(X:aQ T h x [v])(hn:rs.length<=1000){K:Value->Heap->Prop}
 (HK:∀t h',lg lo h' b1 t f4 f5 f6 (rs++[v]) es ts vs->Fr f3.own h h'->(∀k,t.own k->f3.own k\/h.size<=k)->K t.v h'):iU Tryz.prog (bE lP lP lP f3.v x.v) h K:=by
 have h3:f3.n=rs.length:=by have:=S.r.rd.len;simpa using this.symm
 have hx:x.n=1:=by have:=X.len;simpa using this
 refine bM fu S.r (fun k hk=>by omega) X (fe _) (by omega) fun t h' n' o' f' w'=>HK t h' ?_ f' w'
 have dj:∀{s:Sl}{l:List Int},bL h (fun k=>lo<=k) s l->Dj f3 s->Dj t s:=fun O D k hk hs=>by
  rcases w' k hk with hk|hk
  ·exact D k hk hs
  ·have:=(O.aH hs).2;omega
 refine⟨by show Ow _ _ _ _ _ _;rw[List.map_append];exact o',S.e.fr f' fun k hk aI=>S.re k aI hk,S.t.fr f' fun k hk aI=>S.rt k aI hk,S.v.fr f' fun k hk aI=>S.rv k aI hk,dj S.e S.re,dj S.t S.rt,dj S.v S.rv,S.et,S.ev,S.tv,fun hk=> ?_,S.ne,S.nt,S.nv,S.lb,Nat.lt_of_lt_of_le S.hb f'.size⟩
 rcases w' _ hk with hk|hk
 ·exact S.nr hk
 ·have:=S.hb;omega
theorem fL{h:Heap}(v:Int){K:Value->Heap->Prop}(HK:∀x h',bL h' (fun k=>h.size<=k) x [v]->Fr No h h'->K x.v h'):iU Tryz.prog (Instr.buildSlice lP 1 #[(0,VI v)]) h K:=
 aP fu (fun k=>h.size<=k) (fun _ h=>h) 1 (by omega) [VI v] rfl rfl fun x h' n c o f m _=>HK x h' (by show Ow _ _ _ _ _ _;simpa using o) f
theorem Gm{b d:Nat}(hb:0<b)(hd:0<d):∀(n:Nat){rs:List Int}{a:Int},rs.length=bB b (d-1)->(∀r,r∈rs->0<=r/\r<=(b:Int))->(PC b (bB b (d-1)) n rs a).1.length=bB b (d-1)/\∀r,r∈(PC b (bB b (d-1)) n rs a).1->0<=r/\r<=(b:Int)
 |0,rs,a,hl,hr=>⟨hl,hr⟩
 |n+1,rs,a,hl,hr=>by
  rw[PC]
  by_cases h:0<=a/\a<(bB b (d-1):Nat)
  ·rw[if_pos h]
   obtain⟨_,_,s3,_⟩:=PD hb hl hd hr h.1 h.2 rfl
   exact Gm hb hd n (by rw[List.length_set];exact hl) s3
  ·rw[if_neg h]
   exact⟨hl,hr⟩
theorem sX(b:Nat):∀d,1<=bB b d
 |0=>Nat.le_refl _
 |d+1=>by rw[bB];have:=sX b d;omega
theorem uQ{b d:Nat}(hb:b<4)(hd:d<7){h:Heap}(K:Value->Heap->Prop)(HK:K (VI (bB b d)) h):aE Tryz.prog 268 #[VI b,VI d] h K:=by
 refine aic b d h K ⟨fun n all lev i h'=>∃j:Nat,i=j/\n+j=d/\all=(bB b j:Nat)/\lev=(iX b j:Nat)/\h'=h,⟨d,0,rfl,by omega,rfl,rfl,rfl⟩,?_⟩
 rintro n all lev i h' ⟨j,rfl,hn,rfl,rfl,rfl⟩ hL
 have hs:=fU b hb j (by omega)
 refine⟨fun e=> ?_,fun e=> ?_⟩
 ·simp only[decide_eq_true_eq]at e
  have hs2:=fU b hb (j+1) (by omega)
  have e1:((iX b j:Nat):Int)*(b:Int)=((iX b (j+1):Nat):Int):=by rw[iX];simp
  have e2:bB b (j+1)=bB b j+iX b (j+1):=rfl
  rw[e1,aG ((iX b (j+1):Nat):Int) (by omega) (by omega),aG _ (by omega) (by omega),aG _ (by omega) (by omega)]
  exact⟨n-1,by omega,j+1,by omega,by omega,by omega,rfl,rfl⟩
 ·simp only[decide_eq_false_iff_not]at e
  have:j=d:=by omega
  subst this
  exact HK
theorem Am{h:Heap}(b d:Int)(K:Value->Heap->Prop)(HK:K (VB (decide (2<=b/\b<=3/\1<=d/\d<=6)&&decide ((bB b.toNat d.toNat:Int)<=130))) h):aE Tryz.prog 266 #[VI b,VI d] h K:=by
 refine ah8 b d h K (eJ _ _ _ h _ ⟨_,rfl,.nil,fun e=> ?_,fun e=> ?_⟩)
 ·have e:=aY.1 e
  refine eJ _ _ _ h _ ⟨_,rfl,.nil,fun e2=> ?_,fun e2=> ?_⟩
  ·have e2:=aY.1 e2
   obtain⟨B,rfl⟩:∃B:Nat,b=B:=⟨b.toNat,by omega⟩
   obtain⟨D,rfl⟩:∃D:Nat,d=D:=⟨d.toNat,by omega⟩
   refine uQ (by omega) (by omega) _ ⟨_,rfl,.nil,?_⟩
   rw[decide_eq_true (show 2<=(B:Int)/\(B:Int)<=3/\1<=(D:Int)/\(D:Int)<=6 by omega),Bool.true_and]at HK
   exact HK
  ·rw[decide_eq_false (show¬(2<=b/\b<=3/\1<=d/\d<=6)from fun h=>by simp at e2;omega),Bool.false_and]at HK
   exact HK
 ·rw[decide_eq_false (show¬(2<=b/\b<=3/\1<=d/\d<=6)from fun h=>by simp at e;omega),Bool.false_and]at HK
  exact HK
theorem lg.toT{lo:Nat}{h:Heap}{b1:Nat}{f3 f4 f5 f6:Sl}{rs es ts vs:List Int}(S:lg lo h b1 f3 f4 f5 f6 rs es ts vs):lg lo h b1 f5 f3 f4 f6 ts rs es vs:=S.PE.iN
theorem lg.ofT{lo:Nat}{h:Heap}{b1:Nat}{f3 f4 f5 f6:Sl}{rs es ts vs:List Int}(S:lg lo h b1 f5 f3 f4 f6 ts rs es vs):lg lo h b1 f3 f4 f5 f6 rs es ts vs:=S.iN.PE
theorem gJ{h h':Heap}{b1:Nat}{cs:List Value}{T:Nat->Prop}(hL:Vars h [(b1,cs)])(f:Fr T h h')(hT:¬T b1):Vars h' [(b1,cs)]:=hL.fr f fun p hp=>by
 simp only[List.mem_singleton]at hp
 subst hp
 exact hT
def UI(b d lo:Nat)(h2:Heap)(b1:Nat)(f3 f4 f5 f6:Sl)(rs es ts:List Int)(sp:Prop)(n:Nat)(a lv:Int)(h':Heap):Prop:=
 ∃sL pL,Gk b d sL a<=n/\PC b (bB b (d-1)) n sL a=UH b d rs/\sL.length=bB b (d-1)/\(∀r,r∈sL->0<=r/\r<=(b:Int))/\pL.length=d+1/\lg lo h' b1 f3 f4 f5 f6 sL es ts pL/\Fr (fun k=>lo<=k) h2 h'/\ -1<=a/\a<=(bB b d:Int)/\(0<=a->lv=(fK b a.toNat:Int))/\(sp->a<0->lv<0)
theorem PF{b first n:Nat}{rs:List Int}{a:Int}{R:List Int×Int}{ph:Nat}(hn:ph<n)(h0:0<=a)(h1:a<(first:Int))(H:PC b first n rs a=R):PC b first (n-1) (rs.set a.toNat ((rs.getD a.toNat 0+1)%((b:Int)+1))) (vX b a ((rs.getD a.toNat 0+1)%((b:Int)+1)))=R:=by
 obtain⟨m,rfl⟩:∃m,n=m+1:=⟨n-1,by omega⟩
 rw[PC,if_pos ⟨h0,h1⟩]at H
 exact H
def Ao(b d:Nat)(rs:List Int):Int:=if(UH b d rs).2= -1 then 0 else 1
set_option maxHeartbeats 4000000 in
theorem TD{b d:Nat}(hb:2<=b/\b<=3)(hd:1<=d/\d<=6){lo:Nat}{h:Heap}(vO:lo<=h.size){b1:Nat}{f3 f4 f5 f6:Sl}{rs es ts vs:List Int}(hL:Vars h [(b1,[VI b,VI d,f3.v,f4.v,f5.v,f6.v])])(S:lg lo h b1 f3 f4 f5 f6 rs es ts vs)(hl:rs.length=bB b (d-1))(hr:∀r,r∈rs->0<=r/\r<=(b:Int))(hv:vs.length=d+1)(he:es.length<=300)(ht:ts.length<=300)(K:Value->Heap->Prop)
 (HK:∀h' t u ws pL,Vars h' [(b1,[VI b,VI d,f3.v,t.v,u.v,f6.v])]->lg lo h' b1 f3 t u f6 (UH b d rs).1 (es++[Ao b d rs]) ws pL->ws.length=ts.length+1->pL.length=d+1->Fr (fun k=>lo<=k) h h'->K (.tuple #[]) h'):aE Tryz.prog 269 #[VP b1 0] h K:=by
 have hs:=fU b (by omega) d (by omega)
 have VR:=fU b (by omega) (d-1) (by omega)
 refine aid b1 b d f3 f4 f5 f6 h K hL ?_
 unfold abv pk
 rw[show aL ((d:Int)-1)=((d-1:Nat):Int)from by rw[aG _ (by omega) (by omega)];omega]
 refine uQ (by omega) (by omega) _ ⟨_,rfl,hL,?_⟩
 obtain⟨a1,a2,a3,S1,f1⟩:=S.pz.Gl (i:=0) (by omega) (by omega) (aL (vs.getD (0:Int).toNat 0+1))
 refine⟨a1,_,a2,a1,a3,gJ hL f1 S.nv,fun h2 e2 bW=> ?_⟩
 subst e2
 have S1:=S1.pz
 have F1:Fr (fun k=>lo<=k) h _:=f1.mono fun k _ hk=>(S.v.aH hk).1
 refine⟨fun n a lv st h'=>UI b d lo _ b1 f3 f4 f5 f6 rs es ts False n a lv h',⟨Gk b d rs 0,rs,_,Nat.le_refl _,rfl,hl,hr,by rw[List.length_set];exact hv,S1,Fr.refl _ _,by omega,by omega,fun _=>by simp[mK],fun h=>h.elim⟩,?_⟩
 rintro n a lv st h3 ⟨sL,pL,i1,i2,i3,i4,i5,S3,VA,i6,i7,i8,_⟩ cF
 refine⟨fun e1=>⟨fun e2=> ?_,fun e2=> ?_⟩,fun e1=> ?_⟩
 ·simp only[decide_eq_true_eq,Bool.not_eq_true',decide_eq_false_iff_not]at e1 e2
  have h0:0<=a:=by omega
  obtain⟨r,CC⟩:∃r,r=(sL.getD a.toNat 0+1)%((b:Int)+1):=⟨_,rfl⟩
  obtain⟨s0,s1,s3,s4,s5,s6,s7⟩:=PD (by omega) i3 (by omega) i4 h0 e2 CC
  have hq:0<=sL.getD a.toNat 0/\sL.getD a.toNat 0<=b:=by
   have hi:a.toNat<sL.length:=by omega
   have:sL.getD a.toNat 0=sL[a.toNat]:=by rw[List.getD_eq_getElem?_getD,List.getElem?_eq_getElem hi,Option.getD_some]
   rw[this];exact i4 _ (List.getElem_mem hi)
  have ev:Int.tmod (aL (sL.getD a.toNat 0+1)) (aL ((b:Int)+1))=r:=by
   rw[aG _ (by omega) (by omega),aG _ (by omega) (by omega),Int.tmod_eq_emod_of_nonneg (by omega),CC]
  obtain⟨c1,c2,c3,S4,ZW⟩:=S3.Gl h0 (by omega) r
  refine⟨c1,_,c2,by rw[aG _ (by omega) (by omega)];omega,c1,?_⟩
  rw[ev]
  refine⟨c3,gJ cF ZW S3.nr,fun h4 e4 dS=> ?_⟩
  subst e4
  have G:=PF (Nat.lt_of_lt_of_le s4 i1) h0 e2 i2
  rw[<-CC]at G
  obtain⟨d1,d2,_,_,_⟩:=S4.Gl h0 (by rw[List.length_set];omega) 0
  have eg:(sL.set a.toNat r).getD a.toNat 0=r:=by
   rw[List.getD_eq_getElem?_getD,List.getElem?_set_self (by omega),Option.getD_some]
  rw[eg]at d2
  have F4:Fr (fun k=>lo<=k) _ _:=VA.trans (ZW.mono fun k _ hk=>(S3.r.aH hk).1)
  have l1:=i8 h0
  refine⟨fun x1 x2 h'=>x1=vX b a r/\ -1<=x1/\x1<=(bB b d:Int)/\(0<=x1->x2=(fK b x1.toNat:Int)/\x2<=d)/\h'=Mx.cL h3 (f3.at a 1) (VI r),⟨d1,r,d2,fun e3=> ?_,fun e3=>⟨fun e5=> ?_,fun e5=> ?_⟩⟩,?_⟩
  ·simp only[decide_eq_true_eq]at e3
   obtain⟨t1,t2,t3⟩:=s6 e3
   have hab:0<=a*(b:Int):=Int.mul_nonneg h0 (by omega)
   have PG:vX b a r=a*b+r:=by unfold vX;rw[if_pos e3]
   rw[PG]
   generalize a*(b:Int)=q at*
   rw[aG q (by omega) (by omega),aG (q+r) (by omega) (by omega),aG (lv+1) (by omega) (by omega)]
   exact⟨rfl,by omega,by omega,fun _=>⟨by rw[t1];omega,by omega⟩,rfl⟩
  ·simp only[decide_eq_true_eq,decide_eq_false_iff_not]at e3 e5
   have PG:vX b a r= -1:=by unfold vX;rw[if_neg e3,if_pos e5]
   rw[PG]
   exact⟨rfl,by omega,by omega,fun h=>by omega,rfl⟩
  ·simp only[decide_eq_false_iff_not]at e3 e5
   obtain⟨t1,t2,t3⟩:=s7 e3 e5
   have PG:vX b a r=(a-1)/b:=by unfold vX;rw[if_neg e3,if_neg e5]
   rw[PG,aG (a-1) (by omega) (by omega),Int.tdiv_eq_ediv_of_nonneg (by omega),aG (lv-1) (by omega) (by omega),aG _ (by omega) (by omega)]
   exact⟨by omega,rfl,by omega,by omega,fun _=>⟨by omega,by omega⟩,rfl⟩
  rintro x1 x2 h5 ⟨rfl,x3,x4,x5,rfl⟩ gj
  refine⟨fun e3=> ?_,fun e3=> ?_⟩
  ·simp only[Bool.not_eq_true',decide_eq_false_iff_not]at e3
   obtain⟨y1,y2⟩:=x5 (by omega)
   obtain⟨g1,g2,g3,S5,f5'⟩:=S4.pz.Gl (i:=x2) (by omega) (by omega) (aL (pL.getD x2.toNat 0+1))
   refine⟨g1,_,g2,g1,g3,gJ gj f5' S4.nv,fun h6 e6 jJ=> ?_⟩
   subst e6
   exact⟨n-1,by omega,_,_,by omega,G,by rw[List.length_set];exact i3,s3,by rw[List.length_set];exact i5,S5.pz,F4.trans (f5'.mono fun k _ hk=>(S4.v.aH hk).1),x3,x4,fun h=>(x5 h).1,fun h=>h.elim⟩
  ·simp only[Bool.not_eq_false',decide_eq_true_eq]at e3
   exact⟨n-1,by omega,_,_,by omega,G,by rw[List.length_set];exact i3,s3,i5,S4,F4,x3,x4,fun h=>by omega,fun h=>h.elim⟩
 all_goals
  have ZX:¬(0<=a/\a<(bB b (d-1):Int)):=by
   first
   |(simp only[decide_eq_false_iff_not]at e2;omega)
   |(simp only[Bool.not_eq_false',decide_eq_true_eq]at e1;omega)
  rw[KC _ _ _ _ _ ZX]at i2
  have p1:=sX b (d-1)
  have eE:Ao b d rs=if a= -1 then 0 else 1:=by unfold Ao;rw[<-i2]
  have eR:(UH b d rs).1=sL:=by rw[<-i2]
  have z3:lo<=h3.size:=Nat.le_of_lt (Nat.lt_of_le_of_lt S3.lb S3.hb)
  have F3:=F1.trans VA
  have fin:∀h' t u,Vars h' [(b1,[VI b,VI d,f3.v,t.v,u.v,f6.v])]->lg lo h' b1 f3 t u f6 sL (es++[Ao b d rs]) (ts++[st]) pL->Fr (fun k=>lo<=k) h3 h'->K (.tuple #[]) h':=fun h' t u V S' f=>HK h' t u _ _ V (by rw[eR];exact S') (by simp) i5 (F3.trans f)
  refine⟨fun x h'=>x=Ao b d rs/\h'=h3,⟨fun e=>⟨by simp only[decide_eq_true_eq]at e;rw[eE,if_pos e],rfl⟩,fun e=>⟨by simp only[decide_eq_false_iff_not]at e;rw[eE,if_neg e],rfl⟩⟩,?_⟩
  rintro x _ ⟨rfl,rfl⟩ dS
  have box:∀{X Y:Heap},Fr (In [b1,b1]) X Y->Fr (fun k=>lo<=k) X Y:=fun f=>f.mono fun k _ hk=>by simp[In]at hk;have:=S3.lb;omega
  refine⟨?_,?_⟩
  ·refine fL _ fun x5 h5 o5 f5=>⟨x5,rfl,dS.aB f5,?_⟩
   have S5:=S3.no f5
   have z5:=f5.size
   refine⟨?_,?_⟩
   ·refine S5.iN.D5 (by omega) o5.rd (by omega) fun t h6 S6 f6 w6=>⟨t,rfl,gJ (dS.aB f5) f6 S5.ne,?_⟩
    have z6:=f6.size
    refine fL _ fun x7 h7 o7 f7=>⟨x7,rfl,(gJ (dS.aB f5) f6 S5.ne).aB f7,?_⟩
    have S7:=S6.iN.no f7
    have z7:=f7.size
    refine S7.toT.D5 (by omega) o7.rd (by omega) fun u h8 S8 f8 w8=>⟨u,rfl,gJ ((gJ (dS.aB f5) f6 S5.ne).aB f7) f8 S7.nt,fun h9 f9 fQ=> ?_⟩
    refine fin h9 t u fQ (S8.ofT.L8 f9 (by simp)) ((((f5.aB.trans (f6.mono fun k _ hk=>(S5.e.aH hk).1)).trans f7.aB).trans (f8.mono fun k _ hk=>(S7.t.aH hk).1)).trans (box f9))
   ·refine fL _ fun x7 h7 o7 f7=>⟨x7,rfl,(dS.aB f5).aB f7,?_⟩
    have z7:=f7.size
    have S7:=S5.no f7
    refine S7.iN.D5 (by omega) (Ow.no o5 f7).rd (by omega) fun t h6 S6 f6 w6=>⟨t,rfl,gJ ((dS.aB f5).aB f7) f6 S7.ne,?_⟩
    have z6:=f6.size
    have o6:=Ow.fr o7 f6 fun k hk aI=>by have h1:=(o7.aH hk).1;have h2:=(S5.e.aH aI).2;omega
    refine S6.iN.toT.D5 (by omega) o6.rd (by omega) fun u h8 S8 f8 w8=>⟨u,rfl,gJ (gJ ((dS.aB f5).aB f7) f6 S7.ne) f8 S6.iN.nt,fun h9 f9 fQ=> ?_⟩
    refine fin h9 t u fQ (S8.ofT.L8 f9 (by simp)) ((((f5.aB.trans f7.aB).trans (f6.mono fun k _ hk=>(S7.e.aH hk).1)).trans (f8.mono fun k _ hk=>(S6.iN.t.aH hk).1)).trans (box f9))
  ·refine fL _ fun x7 h7 o7 f7=>⟨x7,rfl,dS.aB f7,?_⟩
   have z7:=f7.size
   refine fL _ fun x5 h5 o5 f5=>⟨x5,rfl,(dS.aB f7).aB f5,?_⟩
   have z5:=f5.size
   have S5:=(S3.no f7).no f5
   refine S5.iN.D5 (by omega) o5.rd (by omega) fun t h6 S6 f6 w6=>⟨t,rfl,gJ ((dS.aB f7).aB f5) f6 S5.ne,?_⟩
   have z6:=f6.size
   have o6:=Ow.fr (Ow.no o7 f5) f6 fun k hk aI=>by have h1:=(o7.aH hk).1;have h2:=(S3.e.aH aI).2;omega
   refine S6.iN.toT.D5 (by omega) o6.rd (by omega) fun u h8 S8 f8 w8=>⟨u,rfl,gJ (gJ ((dS.aB f7).aB f5) f6 S5.ne) f8 S6.iN.nt,fun h9 f9 fQ=> ?_⟩
   refine fin h9 t u fQ (S8.ofT.L8 f9 (by simp)) ((((f7.aB.trans f5.aB).trans (f6.mono fun k _ hk=>(S5.e.aH hk).1)).trans (f8.mono fun k _ hk=>(S6.iN.t.aH hk).1)).trans (box f9))
set_option maxHeartbeats 4000000 in
theorem TE{b d:Nat}(hb:2<=b/\b<=3)(hd:1<=d/\d<=6){lo:Nat}{h:Heap}(vO:lo<=h.size){b1:Nat}{f3 f4 f5 f6:Sl}{rs es ts vs:List Int}(hL:Vars h [(b1,[VI b,VI d,VI (bB b (d-1):Nat),f3.v,f4.v,f5.v,f6.v])])(S:lg lo h b1 f3 f4 f5 f6 rs es ts vs)(hl:rs.length=bB b (d-1))(hr:∀r,r∈rs->0<=r/\r<=(b:Int))(hv:vs.length=d+1)(he:es.length<=300)(ht:ts.length<=300)(K:Value->Heap->Prop)
 (HK:∀h' t u ws pL,Vars h' [(b1,[VI b,VI d,VI (bB b (d-1):Nat),f3.v,t.v,u.v,f6.v])]->lg lo h' b1 f3 t u f6 (UH b d rs).1 (es++[Ao b d rs]) ws pL->ws.length=ts.length+1->pL.length=d+1->Fr (fun k=>lo<=k) h h'->K (.tuple #[]) h'):aE Tryz.prog 240 #[VP b1 0] h K:=by
 have hs:=fU b (by omega) d (by omega)
 have VR:=fU b (by omega) (d-1) (by omega)
 refine ahH b1 b d (bB b (d-1):Nat) f3 f4 f5 f6 h K hL ?_
 unfold abt pk
 obtain⟨a1,a2,a3,S1,f1⟩:=S.pz.Gl (i:=0) (by omega) (by omega) (aL (vs.getD (0:Int).toNat 0+1))
 refine⟨a1,_,a2,a1,a3,gJ hL f1 S.nv,fun h2 e2 bW=> ?_⟩
 subst e2
 have S1:=S1.pz
 have F1:Fr (fun k=>lo<=k) h _:=f1.mono fun k _ hk=>(S.v.aH hk).1
 refine⟨fun n a lv st h'=>UI b d lo _ b1 f3 f4 f5 f6 rs es ts True n a lv h',⟨Gk b d rs 0,rs,_,Nat.le_refl _,rfl,hl,hr,by rw[List.length_set];exact hv,S1,Fr.refl _ _,by omega,by omega,fun _=>by simp[mK],fun _ h=>by omega⟩,?_⟩
 rintro n a lv st h3 ⟨sL,pL,i1,i2,i3,i4,i5,S3,VA,i6,i7,i8,i9⟩ cF
 refine⟨fun e1=>⟨fun e2=> ?_,fun e2=> ?_⟩,fun e1=> ?_⟩
 ·simp only[decide_eq_true_eq]at e1 e2
  have h0:0<=a:=e1
  obtain⟨r,CC⟩:∃r,r=(sL.getD a.toNat 0+1)%((b:Int)+1):=⟨_,rfl⟩
  obtain⟨s0,s1,s3,s4,s5,s6,s7⟩:=PD (by omega) i3 (by omega) i4 h0 e2 CC
  have hq:0<=sL.getD a.toNat 0/\sL.getD a.toNat 0<=b:=by
   have hi:a.toNat<sL.length:=by omega
   have:sL.getD a.toNat 0=sL[a.toNat]:=by rw[List.getD_eq_getElem?_getD,List.getElem?_eq_getElem hi,Option.getD_some]
   rw[this];exact i4 _ (List.getElem_mem hi)
  have ev:Int.tmod (aL (sL.getD a.toNat 0+1)) (aL ((b:Int)+1))=r:=by
   rw[aG _ (by omega) (by omega),aG _ (by omega) (by omega),Int.tmod_eq_emod_of_nonneg (by omega),CC]
  obtain⟨c1,c2,c3,S4,ZW⟩:=S3.Gl h0 (by omega) r
  refine⟨c1,_,c2,by rw[aG _ (by omega) (by omega)];omega,c1,?_⟩
  rw[ev]
  refine⟨c3,gJ cF ZW S3.nr,fun h4 e4 dS=> ?_⟩
  subst e4
  have G:=PF (Nat.lt_of_lt_of_le s4 i1) h0 e2 i2
  rw[<-CC]at G
  obtain⟨d1,d2,_,_,_⟩:=S4.Gl h0 (by rw[List.length_set];omega) 0
  have eg:(sL.set a.toNat r).getD a.toNat 0=r:=by
   rw[List.getD_eq_getElem?_getD,List.getElem?_set_self (by omega),Option.getD_some]
  rw[eg]at d2
  have F4:Fr (fun k=>lo<=k) _ _:=VA.trans (ZW.mono fun k _ hk=>(S3.r.aH hk).1)
  have l1:=i8 h0
  refine⟨fun x1 x2 h'=>x1=vX b a r/\ -1<=x1/\x1<=(bB b d:Int)/\(0<=x1->x2=(fK b x1.toNat:Int)/\x2<=d)/\(x1<0->x2<0)/\h'=Mx.cL h3 (f3.at a 1) (VI r),⟨d1,r,d2,fun e3=> ?_,fun e3=>⟨fun e5=> ?_,fun e5=> ?_⟩⟩,?_⟩
  ·simp only[decide_eq_true_eq]at e3
   obtain⟨t1,t2,t3⟩:=s6 e3
   have hab:0<=a*(b:Int):=Int.mul_nonneg h0 (by omega)
   have PG:vX b a r=a*b+r:=by unfold vX;rw[if_pos e3]
   rw[PG]
   generalize a*(b:Int)=q at*
   rw[aG q (by omega) (by omega),aG (q+r) (by omega) (by omega),aG (lv+1) (by omega) (by omega)]
   exact⟨rfl,by omega,by omega,fun _=>⟨by rw[t1];omega,by omega⟩,fun h=>by omega,rfl⟩
  ·simp only[decide_eq_true_eq,decide_eq_false_iff_not]at e3 e5
   have PG:vX b a r= -1:=by unfold vX;rw[if_neg e3,if_pos e5]
   have l0:fK b a.toNat=0:=by rw[e5];exact mK b
   rw[PG,aG (lv-1) (by omega) (by omega)]
   exact⟨rfl,by omega,by omega,fun h=>by omega,fun _=>by omega,rfl⟩
  ·simp only[decide_eq_false_iff_not]at e3 e5
   obtain⟨t1,t2,t3⟩:=s7 e3 e5
   have PG:vX b a r=(a-1)/b:=by unfold vX;rw[if_neg e3,if_neg e5]
   rw[PG,aG (a-1) (by omega) (by omega),Int.tdiv_eq_ediv_of_nonneg (by omega),aG (lv-1) (by omega) (by omega),aG _ (by omega) (by omega)]
   exact⟨by omega,rfl,by omega,by omega,fun _=>⟨by omega,by omega⟩,fun h=>by omega,rfl⟩
  rintro x1 x2 h5 ⟨rfl,x3,x4,x5,x6,rfl⟩ gj
  refine⟨fun e3=> ?_,fun e3=> ?_⟩
  ·simp only[decide_eq_true_eq]at e3
   have NT:0<=vX b a r:=by
    by_cases hh:0<=vX b a r
    ·exact hh
    ·have:=x6 (by omega);omega
   obtain⟨y1,y2⟩:=x5 NT
   obtain⟨g1,g2,g3,S5,f5'⟩:=S4.pz.Gl (i:=x2) (by omega) (by omega) (aL (pL.getD x2.toNat 0+1))
   refine⟨g1,_,g2,g1,g3,gJ gj f5' S4.nv,fun h6 e6 jJ=> ?_⟩
   subst e6
   exact⟨n-1,by omega,_,_,by omega,G,by rw[List.length_set];exact i3,s3,by rw[List.length_set];exact i5,S5.pz,F4.trans (f5'.mono fun k _ hk=>(S4.v.aH hk).1),x3,x4,fun h=>(x5 h).1,fun _=>x6⟩
  ·simp only[decide_eq_false_iff_not]at e3
   exact⟨n-1,by omega,_,_,by omega,G,by rw[List.length_set];exact i3,s3,i5,S4,F4,x3,x4,fun h=>by have:=x5 h;omega,fun _=>x6⟩
 all_goals
  have ZX:¬(0<=a/\a<(bB b (d-1):Int)):=by
   first
   |(simp only[decide_eq_false_iff_not]at e2;omega)
   |(simp only[decide_eq_false_iff_not]at e1;omega)
  rw[KC _ _ _ _ _ ZX]at i2
  have p1:=sX b (d-1)
  have eE:Ao b d rs=if a= -1 then 0 else 1:=by unfold Ao;rw[<-i2]
  have eR:(UH b d rs).1=sL:=by rw[<-i2]
  have z3:lo<=h3.size:=Nat.le_of_lt (Nat.lt_of_le_of_lt S3.lb S3.hb)
  have F3:=F1.trans VA
  have fin:∀h' t u,Vars h' [(b1,[VI b,VI d,VI (bB b (d-1):Nat),f3.v,t.v,u.v,f6.v])]->lg lo h' b1 f3 t u f6 sL (es++[Ao b d rs]) (ts++[st]) pL->Fr (fun k=>lo<=k) h3 h'->K (.tuple #[]) h':=fun h' t u V S' f=>HK h' t u _ _ V (by rw[eR];exact S') (by simp) i5 (F3.trans f)
  refine⟨fun x h'=>x=Ao b d rs/\h'=h3,⟨fun e=>⟨by simp only[decide_eq_true_eq]at e;rw[eE,if_neg (by omega)],rfl⟩,fun e=>⟨by simp only[decide_eq_false_iff_not]at e;rw[eE,if_pos (by omega)],rfl⟩⟩,?_⟩
  rintro x _ ⟨rfl,rfl⟩ dS
  have box:∀{X Y:Heap},Fr (In [b1]) X Y->Fr (fun k=>lo<=k) X Y:=fun f=>f.mono fun k _ hk=>by simp[In]at hk;have:=S3.lb;omega
  refine fL _ fun x5 h5 o5 f5=>⟨x5,rfl,dS.aB f5,?_⟩
  have S5:=S3.no f5
  have z5:=f5.size
  refine S5.iN.D5 (by omega) o5.rd (by omega) fun t h6 S6 f6 w6=>⟨t,rfl,gJ (dS.aB f5) f6 S5.ne,fun h7 f7 jA=> ?_⟩
  have z6:=f6.size
  have z7:=f7.size
  have S7:=S6.iN.L8 f7 (by simp)
  refine fL _ fun x8 h8 o8 f8=>⟨x8,rfl,jA.aB f8,?_⟩
  have z8:=f8.size
  have S8:=S7.no f8
  refine S8.toT.D5 (by omega) o8.rd (by omega) fun u h9 S9 f9 w9=>⟨u,rfl,gJ (jA.aB f8) f9 S8.nt,fun dV f10 dL=> ?_⟩
  exact fin dV t u dL (S9.ofT.L8 f10 (by simp)) (((((f5.aB.trans (f6.mono fun k _ hk=>(S5.e.aH hk).1)).trans (box f7)).trans f8.aB).trans (f9.mono fun k _ hk=>(S8.t.aH hk).1)).trans (box f10))
theorem UJ{S:Nat->Prop}{h:Heap}{s:Sl}{xs:List Int}(H:aQ S h s xs)(hb:∀x,x∈xs->0<=x/\x<=20)(hn:xs.length<=1000)(K:Value->Heap->Prop)(HK:K (VI xs.sum) h):aE Tryz.prog 172 #[s.v] h K:=by
 refine agb s h K ⟨fun n t i h'=>h'=h/\0<=i/\i+n=(xs.length:Int)/\t=(xs.take i.toNat).sum/\0<=t/\t<=20*i,⟨xs.length,rfl,by omega,by omega,by simp,by omega,by omega⟩,?_⟩
 rintro n t i _ ⟨rfl,i0,i1,e1,t0,t1⟩ hL
 refine⟨fun e=> ?_,fun e=> ?_⟩
 ·have hi:=H.lt e
  have hx:=hb _ (List.getElem_mem (show i.toNat<xs.length by omega))
  refine⟨H.bC i0 hi,_,H.get i0 hi,?_⟩
  rw[H.succ i0 hi,aG _ (by omega) (by omega)]
  refine⟨n-1,by omega,rfl,by omega,by omega,?_,by omega,by omega⟩
  rw[dX xs i0 hi,List.sum_append,e1]
  simp
 ·have hi:=H.ge e
  rw[List.take_of_length_le (by omega)]at e1
  rw[e1]
  exact HK
theorem TF{S:Nat->Prop}{h:Heap}{s:Sl}{xs:List Int}(H:aQ S h s xs)(hb:∀x,x∈xs->0<=x/\x<=20)(hn:xs.length<=1000)(K:Value->Heap->Prop)(HK:K (VI xs.sum) h):aE Tryz.prog 190 #[s.v] h K:=by
 refine agF s h K ⟨fun n t i h'=>h'=h/\0<=i/\i+n=(xs.length:Int)/\t=(xs.take i.toNat).sum/\0<=t/\t<=20*i,⟨xs.length,rfl,by omega,by omega,by simp,by omega,by omega⟩,?_⟩
 rintro n t i _ ⟨rfl,i0,i1,e1,t0,t1⟩ hL
 refine⟨fun e=> ?_,fun e=> ?_⟩
 ·have hi:=H.lt e
  have hx:=hb _ (List.getElem_mem (show i.toNat<xs.length by omega))
  refine⟨H.bC i0 hi,_,H.get i0 hi,?_⟩
  rw[H.succ i0 hi,aG _ (by omega) (by omega)]
  refine⟨n-1,by omega,rfl,by omega,by omega,?_,by omega,by omega⟩
  rw[dX xs i0 hi,List.sum_append,e1]
  simp
 ·have hi:=H.ge e
  rw[List.take_of_length_le (by omega)]at e1
  rw[e1]
  exact HK
theorem p4{b d:Nat}(hb:0<b)(hd:0<d):∀(n:Nat){rs:List Int},rs.length=bB b (d-1)->(∀r,r∈rs->0<=r/\r<=(b:Int))->(nG b d n rs).1.length=bB b (d-1)/\(∀r,r∈(nG b d n rs).1->0<=r/\r<=(b:Int))/\(nG b d n rs).2.length=n/\∀x,x∈(nG b d n rs).2->0<=x/\x<=1
 |0,rs,hl,hr=>⟨hl,hr,rfl,fun x hx=>by simp[nG]at hx⟩
 |n+1,rs,hl,hr=>by
  obtain⟨a1,a2,a3,a4⟩:=p4 hb hd n hl hr
  obtain⟨b1,b2⟩:=Gm hb hd (Gk b d (nG b d n rs).1 0) (a:=0) a1 a2
  refine⟨b1,b2,by simp[nG,a3],fun x hx=> ?_⟩
  simp only[nG,List.mem_append,List.mem_singleton]at hx
  rcases hx with hx|rfl
  ·exact a4 x hx
  ·split<;>omega
theorem wO{b d k n:Int}(h:qp b d k n=true):∃B D N:Nat,b=B/\d=D/\n=N/\(2<=B/\B<=3)/\(1<=D/\D<=6)/\bB B D<=130/\(0<=k/\k<=B)/\N<=200:=by
 unfold qp at h
 simp only[Bool.and_eq_true,decide_eq_true_eq]at h
 obtain⟨⟨h1,h2⟩,h3⟩:=h
 exact⟨b.toNat,d.toNat,n.toNat,by omega,by omega,by omega,by omega,by omega,by omega,by omega,by omega⟩
theorem mL{b k:Int}{m:Nat}(h:0<=k/\k<=b):∀r,r∈List.replicate m k->0<=r/\r<=b:=fun r hr=>by rw[List.eq_of_mem_replicate hr];exact h
theorem Gn{b d:Nat}(hb:2<=b)(hd:1<=d)(h:bB b d<=130):bB b (d-1)<=100:=by
 have e:bB b d=b*bB b (d-1)+1:=by rw[<-sW,Nat.sub_add_cancel hd]
 have:=Nat.mul_le_mul_right (bB b (d-1)) hb
 omega
theorem iO{h:Heap}{n:Int}{m:Nat}(e:n=m)(hm:m<=100000){K:Value->Heap->Prop}(HK:∀x h',bL h' (fun k=>h.size<=k) x (List.replicate m 0)->Fr No h h'->K x.v h'):iU Tryz.prog (Instr.makeSlice lP (VI n) (VI n)) h K:=by
 subst e
 refine eA fu (fun k=>_<=k) (fun _ h=>h) .i64 .i64 m m (Nat.le_refl _) (by omega) fun t h2 n2 c2 o2 f2 m2 _=>HK t h2 ?_ f2
 have e:(List.replicate m [VI 0]).flatten=(List.replicate m (0:Int)).map VI:=by simp[List.flatten_replicate_singleton]
 show Ow _ _ _ _ _ _
 rw[e]at o2;exact o2
set_option maxHeartbeats 4000000 in
theorem I7{h:Heap}(b d k n:Int)(K:Value->Heap->Prop)(HN:qp b d k n=false->K (.tuple #[.pointer none,VB false]) h)
 (HY:qp b d k n=true->∀b1 h' f3 f4 f5 f6,Vars h' [(b1,[VI b,VI d,Sl.v f3,Sl.v f4,Sl.v f5,Sl.v f6])]->bL h' (fun k=>h.size<=k) f4 (nG b.toNat d.toNat n.toNat (List.replicate (bB b.toNat (d.toNat-1)) k)).2->Fr No h h'->K (.tuple #[VP b1 0,VB true]) h'):aE Tryz.prog 221 #[VI b,VI d,VI k,VI n] h K:=by
 refine ahk b d k n h K (Am b d _ ⟨_,rfl,.nil,fun e=>HN ?_,fun e=> ?_⟩)
 ·unfold qp
  rw[Bool.not_eq_true']at e
  rw[e,Bool.false_and]
 simp only[Bool.not_eq_false',Bool.and_eq_true,decide_eq_true_eq]at e
 refine eJ _ _ _ h _ ⟨_,rfl,.nil,fun e2=>HN ?_,fun e2=> ?_⟩
 ·unfold qp
  rw[decide_eq_false (p:=0<=k/\k<=b/\0<=n/\n<=200) (fun h=>by simp at e2;omega),Bool.and_false]
 have e2:0<=k/\k<=b:=by simpa using e2
 refine eJ _ _ _ h _ ⟨_,rfl,.nil,fun e3=>HN ?_,fun e3=> ?_⟩
 ·unfold qp
  rw[decide_eq_false (p:=0<=k/\k<=b/\0<=n/\n<=200) (fun h=>by simp at e3;omega),Bool.and_false]
 have e3:0<=n/\n<=200:=by simpa using e3
 have ha:qp b d k n=true:=by unfold qp;simp only[Bool.and_eq_true,decide_eq_true_eq];omega
 replace HY:=HY ha
 obtain⟨B,D,N,rfl,rfl,rfl,q1,q2,q3,q4,q5⟩:=wO ha
 simp only[Int.toNat_natCast]at HY
 have hi:=Gn q1.1 q2.1 q3
 have hp:=sX B (D-1)
 have ed:aL ((D:Int)-1)=((D-1:Nat):Int):=by rw[aG _ (by omega) (by omega)];omega
 have ev:aL ((D:Int)+1)=((D+1:Nat):Int):=by rw[aG _ (by omega) (by omega)];omega
 have UK:∀{X:Heap}{K:Value->Heap->Prop},K (VI (bB B (D-1):Nat)) X->aE Tryz.prog 268 #[VI B,VI (aL ((D:Int)-1))] X K:=fun H=>by rw[ed];exact uQ (by omega) (by omega) _ H
 have key:∀{J:Nat->Int->Int->Sl->Sl->Sl->Sl->Heap->Prop},(∀{X:Heap}{r v:Sl},Fr No h X->bL X (fun k=>h.size<=k) r (List.replicate (bB B (D-1)) k)->bL X (fun k=>h.size<=k) v (List.replicate (D+1) 0)->Dj r v->∀b1 h',X.size<=b1->Fr (In []) X h'->Vars h' [(b1,[VI B,VI D,r.v,aC.v,aC.v,v.v])]->J b1 B D r aC aC v h')->
  (∀{X:Heap}{x:Sl}{T:Nat->Prop},Fr No h X->aQ T X x [k]->aE Tryz.prog 267 #[x.v,VI (bB B (D-1):Nat)] X fun rv h6=>∃t:Sl,rv=t.v/\Vars h6 []/\iU Tryz.prog (Instr.makeSlice lP (VI (aL ((D:Int)+1))) (VI (aL ((D:Int)+1)))) h6 fun rv h7=>∃t2:Sl,rv=t2.v/\Vars h7 []/\∀b2 h8,h7.size<=b2->Fr (In []) h7 h8->Vars h8 [(b2,[VI B,VI D,t.v,aC.v,aC.v,t2.v])]->J b2 B D t aC aC t2 h8)/\
  (∀{X:Heap}{x v:Sl}{T:Nat->Prop},Fr No h X->aQ T X x [k]->bL X (fun k=>h.size<=k) v (List.replicate (D+1) 0)->aE Tryz.prog 267 #[x.v,VI (bB B (D-1):Nat)] X fun rv h6=>∃t:Sl,rv=t.v/\Vars h6 []/\∀b2 h8,h6.size<=b2->Fr (In []) h6 h8->Vars h8 [(b2,[VI B,VI D,t.v,aC.v,aC.v,v.v])]->J b2 B D t aC aC v h8):=by
  intro J fin
  refine⟨fun fX X0=> ?_,fun fX X0 V0=> ?_⟩
  ·have zX:=fX.size
   refine xX k X0 _ hp hi _ fun r h6 o6 f6=>⟨r,rfl,.nil,iO ev (by omega) fun v h7 o7 f7=>⟨v,rfl,.nil,fin ((fX.aA f6).aA f7) ((Ow.no o6 f7).mono fun k _ hk=>by have:=hk.1;omega) (o7.mono fun k _ hk=>by have:=f6.size;omega) fun k hk aI=> ?_⟩⟩
   have h1:=(o6.aH hk).1
   have h2:=(o7.aH aI).1
   unfold Iv at h1
   omega
  ·have zX:=fX.size
   refine xX k X0 _ hp hi _ fun r h6 o6 f6=>⟨r,rfl,.nil,fin (fX.aA f6) (o6.mono fun k _ hk=>by have:=hk.1;omega) (Ow.no V0 f6) fun k hk aI=> ?_⟩
   have h1:=(o6.aH hk).1
   have h2:=(V0.aH aI).2
   unfold Iv at h1
   omega
 refine⟨fun b1 x1 x2 x3 x4 x5 x6 h'=>x1=(B:Int)/\x2=(D:Int)/\x4=aC/\x5=aC/\lg h.size h' b1 x3 aC aC x6 (List.replicate (bB B (D-1)) k) [] [] (List.replicate (D+1) 0)/\Fr No h h',?_,?_⟩
 ·obtain⟨RM,MR⟩:=key (J:=fun b1 x1 x2 x3 x4 x5 x6 h'=>x1=(B:Int)/\x2=(D:Int)/\x4=aC/\x5=aC/\lg h.size h' b1 x3 aC aC x6 (List.replicate (bB B (D-1)) k) [] [] (List.replicate (D+1) 0)/\Fr No h h') fun{X r v} fX r0 v0 dj b1 h' hb f V=>by
   have f:=f.aF
   have zX:=fX.size
   exact⟨rfl,rfl,rfl,rfl,⟨Ow.no r0 f,Ow.nil _ _ _ _,Ow.nil _ _ _ _,Ow.no v0 f,fun k _ h=>cX k h,fun k _ h=>cX k h,dj,fun k h=>absurd h (cX k),fun k h=>absurd h (cX k),fun k h=>absurd h (cX k),fun hk=>by have:=(r0.aH hk).2;omega,cX _,cX _,fun hk=>by have:=(v0.aH hk).2;omega,by omega,V.head.lt⟩,fX.aA f⟩
  have up:∀{X Y:Heap}{v:Sl},Fr No h X->bL Y (fun k=>X.size<=k) v (List.replicate (D+1) 0)->bL Y (fun k=>h.size<=k) v (List.replicate (D+1) 0):=fun f o=>o.mono fun k _ hk=>by have:=f.size;omega
  have r0:=Fr.refl No h
  refine⟨?_,?_,?_⟩
  ·refine fL _ fun x h4 o4 f4=>⟨x,rfl,.nil,UK ⟨_,rfl,.nil,RM f4 o4.rd,iO ev (by omega) fun v h9 o9 f9=>⟨v,rfl,.nil,MR (f4.aA f9) (Ow.no o4 f9).rd (up f4 o9)⟩⟩,iO ev (by omega) fun v h9 o9 f9=>⟨v,rfl,.nil,UK ⟨_,rfl,.nil,MR (f4.aA f9) (Ow.no o4 f9).rd (up f4 o9)⟩⟩⟩
  ·refine UK ⟨_,rfl,.nil,fL _ fun x h4 o4 f4=>⟨x,rfl,.nil,RM f4 o4.rd,iO ev (by omega) fun v h9 o9 f9=>⟨v,rfl,.nil,MR (f4.aA f9) (Ow.no o4 f9).rd (up f4 o9)⟩⟩,iO ev (by omega) fun v h9 o9 f9=>⟨v,rfl,.nil,fL _ fun x h4 o4 f4=>⟨x,rfl,.nil,MR (f9.aA f4) o4.rd (up r0 (Ow.no o9 f4))⟩⟩⟩
  ·refine iO ev (by omega) fun v h9 o9 f9=>⟨v,rfl,.nil,fL _ fun x h4 o4 f4=>⟨x,rfl,.nil,UK ⟨_,rfl,.nil,MR (f9.aA f4) o4.rd (up r0 (Ow.no o9 f4))⟩⟩,UK ⟨_,rfl,.nil,fL _ fun x h4 o4 f4=>⟨x,rfl,.nil,MR (f9.aA f4) o4.rd (up r0 (Ow.no o9 f4))⟩⟩⟩
 rintro b1 _ _ f3 _ _ f6 h3 ⟨rfl,rfl,rfl,rfl,S3,F3⟩ cF
 have hrr:=mL (m:=bB B (D-1)) q4
 refine⟨fun m i x1 x2 x3 x4 x5 x6 h'=>∃(j:Nat)(ts vs:List Int),i=j/\m+j=N/\x1=(B:Int)/\x2=(D:Int)/\lg h.size h' b1 x3 x4 x5 x6 (nG B D j (List.replicate (bB B (D-1)) k)).1 (nG B D j (List.replicate (bB B (D-1)) k)).2 ts vs/\ts.length=j/\vs.length=D+1/\Fr (fun k=>h.size<=k) h h',⟨N,0,[],_,rfl,by omega,rfl,rfl,S3,rfl,by simp,F3.aB⟩,?_⟩
 rintro m i _ _ x3 x4 x5 x6 h4 ⟨j,ts,vs,rfl,hm,rfl,rfl,S4,t4,v4,F4⟩ dS
 obtain⟨c1,c2,c3,c4⟩:=p4 (b:=B) (d:=D) (by omega) (by omega) j (rs:=List.replicate (bB B (D-1)) k) (by simp) hrr
 refine⟨fun e4=> ?_,fun e4=> ?_⟩
 ·simp only[decide_eq_true_eq]at e4
  refine TD q1 q2 (by have:=S4.lb;have:=S4.hb;omega) dS S4 c1 c2 v4 (by omega) (by omega) _ fun h5 t u ws pL V5 S5 l5 l6 f5=>⟨_,_,_,_,_,_,V5,m-1,by omega,j+1,ws,pL,?_,by omega,rfl,rfl,S5,by omega,l6,F4.trans f5⟩
  rw[aG _ (by omega) (by omega)];omega
 ·simp only[decide_eq_false_iff_not]at e4
  have:j=N:=by omega
  subst this
  exact HY b1 h4 x3 x4 x5 x6 dS S4.e (F4.mono fun k hk aI=>absurd aI (by omega))
theorem Ea{h:Heap}(b d k n:Int)(K:Value->Heap->Prop)(HN:qp b d k n=false->K (.tuple #[aC.v,VB false]) h)
 (HY:qp b d k n=true->∀t h',bL h' (fun k=>h.size<=k) t (nG b.toNat d.toNat n.toNat (List.replicate (bB b.toNat (d.toNat-1)) k)).2->Fr No h h'->K (.tuple #[t.v,VB true]) h'):aE Tryz.prog 171 #[VI b,VI d,VI k,VI n] h K:=by
 refine v171 b d k n h K (I7 b d k n _ (fun e=>⟨none,false,rfl,.nil,fun _=>HN e,fun e=>by cases e⟩) fun e b1 h' f3 f4 f5 f6 V O f=>⟨some ⟨b1,0,none⟩,true,rfl,.nil,fun e=>(by cases e),fun _=>⟨b1,b,d,f3,f4,f5,f6,rfl,V,HY e f4 h' O f⟩⟩)
theorem Gp{h:Heap}(b d k n:Int)(K:Value->Heap->Prop)(HK:∀h',Fr No h h'->K (.tuple #[VI (zG b d k n).1,VB (zG b d k n).2]) h'):aE Tryz.prog 117 #[VI b,VI d,VI k,VI n] h K:=by
 refine v117 b d k n h K (Ea b d k n _ (fun e=>⟨aC,false,rfl,.nil,?_⟩) fun e t h' O f=>⟨t,true,rfl,.nil,?_⟩)
 ·unfold zG at HK
  rw[if_neg (by rw[e];decide)]at HK
  exact UJ (S:=fun _=>True) (xs:=[]) (cK.nil (fun _=>True) h 1) (fun x hx=>by simp at hx) (by simp) _ ⟨_,rfl,.nil,HK h (Fr.refl _ _)⟩
 ·unfold zG at HK
  rw[if_pos e]at HK
  obtain⟨B,D,N,rfl,rfl,rfl,q1,q2,q3,q4,q5⟩:=wO e
  simp only[Int.toNat_natCast]at O HK
  obtain⟨c1,c2,c3,c4⟩:=p4 (b:=B) (d:=D) (by omega) (by omega) N (rs:=List.replicate (bB B (D-1)) k) (by simp) (mL q4)
  exact UJ O.rd (fun x hx=>by have:=c4 x hx;omega) (by omega) _ ⟨_,rfl,.nil,HK h' f⟩
theorem BK{h:Heap}(b d:Int)(K:Value->Heap->Prop)(HN:(decide (2<=b/\b<=3/\1<=d/\d<=6)&&decide ((bB b.toNat d.toNat:Int)<=130))=false->K (VI 0) h)(HY:(decide (2<=b/\b<=3/\1<=d/\d<=6)&&decide ((bB b.toNat d.toNat:Int)<=130))=true->K (VI (bB b.toNat d.toNat)) h):aE Tryz.prog 238 #[VI b,VI d] h K:=by
 refine ahE b d h K (cY _ _ _ h _ ⟨_,rfl,.nil,fun e=>HN ?_,fun e=> ?_⟩)
 ·rw[decide_eq_false (show¬(2<=b/\b<=3/\1<=d/\d<=6)from fun h=>by simp at e;omega),Bool.false_and]
 have e:2<=b/\b<=3:=by simpa using e
 refine cY _ _ _ h _ ⟨_,rfl,.nil,fun e2=>HN ?_,fun e2=> ?_⟩
 ·rw[decide_eq_false (show¬(2<=b/\b<=3/\1<=d/\d<=6)from fun h=>by simp at e2;omega),Bool.false_and]
 have e2:1<=d/\d<=6:=by simpa using e2
 obtain⟨B,rfl⟩:∃B:Nat,b=B:=⟨b.toNat,by omega⟩
 obtain⟨D,rfl⟩:∃D:Nat,d=D:=⟨d.toNat,by omega⟩
 rw[decide_eq_true (show 2<=(B:Int)/\(B:Int)<=3/\1<=(D:Int)/\(D:Int)<=6 by omega),Bool.true_and]at HN HY
 simp only[Int.toNat_natCast,decide_eq_false_iff_not,decide_eq_true_eq]at HN HY
 refine⟨fun n all lev i h'=>∃j:Nat,i=j/\n+j=D/\all=(bB B j:Nat)/\lev=(iX B j:Nat)/\h'=h,⟨D,0,rfl,by omega,rfl,rfl,rfl⟩,?_⟩
 rintro n all lev i h' ⟨j,rfl,hn,rfl,rfl,rfl⟩ hL
 have hs:=fU B (by omega) j (by omega)
 refine⟨fun e3=> ?_,fun e3=> ?_⟩
 ·simp only[decide_eq_true_eq]at e3
  have hs2:=fU B (by omega) (j+1) (by omega)
  have e1:((iX B j:Nat):Int)*(B:Int)=((iX B (j+1):Nat):Int):=by rw[iX];simp
  have e2:bB B (j+1)=bB B j+iX B (j+1):=rfl
  rw[e1,aG ((iX B (j+1):Nat):Int) (by omega) (by omega),aG _ (by omega) (by omega),aG _ (by omega) (by omega)]
  exact⟨n-1,by omega,j+1,by omega,by omega,by omega,rfl,rfl⟩
 ·simp only[decide_eq_false_iff_not]at e3
  have:j=D:=by omega
  subst this
  refine⟨fun e4=>HN ?_,fun e4=>HY ?_⟩
  ·simp only[decide_eq_true_eq]at e4;omega
  ·simp only[decide_eq_false_iff_not]at e4;omega
theorem uR{b d:Nat}(hb:b<4)(hd:d<7){h:Heap}(K:Value->Heap->Prop)(HK:K (VI (iX b d)) h):aE Tryz.prog 273 #[VI b,VI d] h K:=by
 refine aik b d h K ⟨fun n i p h'=>∃j:Nat,i=n/\n+j=d/\p=(iX b j:Nat)/\h'=h,⟨d,0,rfl,by omega,rfl,rfl⟩,?_⟩
 rintro n _ p h' ⟨j,rfl,hn,rfl,rfl⟩ hL
 have hs:=fU b hb j (by omega)
 refine⟨fun e=> ?_,fun e=> ?_⟩
 ·simp only[decide_eq_true_eq]at e
  have hs2:=fU b hb (j+1) (by omega)
  have e1:((iX b j:Nat):Int)*(b:Int)=((iX b (j+1):Nat):Int):=by rw[iX];simp
  rw[e1,aG ((iX b (j+1):Nat):Int) (by omega) (by omega),aG _ (by omega) (by omega)]
  exact⟨n-1,by omega,j+1,by omega,by omega,rfl,rfl⟩
 ·simp only[decide_eq_false_iff_not]at e
  have:j=d:=by omega
  subst this
  exact HK
theorem L9{h:Heap}(b d k n:Int)(K:Value->Heap->Prop)(HK:K (VB (qp b d k n)) h):aE Tryz.prog 189 #[VI b,VI d,VI k,VI n] h K:=by
 refine agD b d k n h K (BK b d _ (fun e=>⟨0,rfl,.nil,fun e2=>by simp at e2,fun _=> ?_⟩) fun e=>⟨_,rfl,.nil,fun e2=> ?_,fun e2=> ?_⟩)
 ·unfold qp at HK
  rw[e,Bool.false_and]at HK
  exact HK
 ·unfold qp at HK
  rw[e,Bool.true_and]at HK
  refine cY _ _ _ h _ ⟨_,rfl,.nil,fun e3=>cY _ _ _ h _ ⟨_,rfl,.nil,?_⟩,fun e3=> ?_⟩
  ·have e3:0<=k/\k<=b:=by simpa using e3
   have:(decide (0<=n)&&decide (n<=200))=decide (0<=k/\k<=b/\0<=n/\n<=200):=by
    rw[<-Bool.decide_and]
    exact decide_eq_decide.2 ⟨fun h=>⟨e3.1,e3.2,h⟩,fun h=>h.2.2⟩
   rw[this]
   exact HK
  ·rw[decide_eq_false (fun h=>by simp at e3;omega)]at HK
   exact HK
 ·have:=sX b.toNat d.toNat
  simp only[decide_eq_false_iff_not]at e2
  omega
set_option maxHeartbeats 4000000 in
theorem Ma{b d:Nat}(hb:2<=b/\b<=3)(hd:1<=d/\d<=6)(hn:bB b d<=130)(k:Int){h:Heap}(K:Value->Heap->Prop)
 (HK:∀b1 h' f3 f6,Vars h' [(b1,[VI b,VI d,VI (bB b (d-1):Nat),Sl.v f3,aC.v,aC.v,Sl.v f6])]->lg h.size h' b1 f3 aC aC f6 (List.replicate (bB b (d-1)) k) [] [] (List.replicate (d+1) 0)->Fr No h h'->K (VP b1 0) h'):aE Tryz.prog 239 #[VI b,VI d,VI k] h K:=by
 have hi:=Gn hb.1 hd.1 hn
 have en:bB b d=bB b (d-1)+iX b d:=by
  have:d=(d-1)+1:=by omega
  rw[this];rfl
 have ev:aL ((d:Int)+1)=((d+1:Nat):Int):=by rw[aG _ (by omega) (by omega)];omega
 have ei:aL (((bB b d:Nat):Int)-((iX b d:Nat):Int))=((bB b (d-1):Nat):Int):=by rw[aG _ (by omega) (by omega)];omega
 have UK:∀{X:Heap}{K:Value->Heap->Prop},K (VI (bB b d:Nat)) X->aE Tryz.prog 238 #[VI b,VI d] X K:=fun H=>BK b d _ (fun e=>by
  rw[decide_eq_true (show 2<=(b:Int)/\(b:Int)<=3/\1<=(d:Int)/\(d:Int)<=6 by omega),Bool.true_and]at e
  simp only[Int.toNat_natCast,decide_eq_false_iff_not]at e
  omega) fun _=>H
 refine ahG b d k h K ⟨fun b1 x1 x2 x3 x4 x5 x6 x7 h'=>x1=(b:Int)/\x2=(d:Int)/\x3=(bB b (d-1):Nat)/\x4=aC/\x5=aC/\x6=aC/\lg h.size h' b1 aC aC aC x7 [] [] [] (List.replicate (d+1) 0)/\Fr No h h',?_,?_⟩
 ·have fin:∀{X:Heap}{v:Sl},Fr No h X->bL X (fun k=>h.size<=k) v (List.replicate (d+1) 0)->∀b1 h',X.size<=b1->Fr (In []) X h'->Vars h' [(b1,[VI b,VI d,VI (aL (((bB b d:Nat):Int)-((iX b d:Nat):Int))),aC.v,aC.v,aC.v,v.v])]->(b:Int)=b/\(d:Int)=d/\aL (((bB b d:Nat):Int)-((iX b d:Nat):Int))=(bB b (d-1):Nat)/\aC=aC/\aC=aC/\aC=aC/\lg h.size h' b1 aC aC aC v [] [] [] (List.replicate (d+1) 0)/\Fr No h h':=fun{X v} fX v0 b1 h' hb f V=>by
   have f:=f.aF
   have zX:=fX.size
   exact⟨rfl,rfl,ei,rfl,rfl,rfl,⟨Ow.nil _ _ _ _,Ow.nil _ _ _ _,Ow.nil _ _ _ _,Ow.no v0 f,fun k h=>absurd h (cX k),fun k h=>absurd h (cX k),fun k h=>absurd h (cX k),fun k h=>absurd h (cX k),fun k h=>absurd h (cX k),fun k h=>absurd h (cX k),cX _,cX _,cX _,fun hk=>by have:=(v0.aH hk).2;omega,by omega,V.head.lt⟩,fX.aA f⟩
  refine⟨UK ⟨_,rfl,.nil,uR (by omega) (by omega) _ ⟨_,rfl,.nil,iO ev (by omega) fun v h3 o3 f3=>⟨v,rfl,.nil,fin f3 o3⟩⟩,iO ev (by omega) fun v h3 o3 f3=>⟨v,rfl,.nil,uR (by omega) (by omega) _ ⟨_,rfl,.nil,fin f3 o3⟩⟩⟩,iO ev (by omega) fun v h3 o3 f3=>⟨v,rfl,.nil,UK ⟨_,rfl,.nil,uR (by omega) (by omega) _ ⟨_,rfl,.nil,fin f3 o3⟩⟩⟩⟩
 rintro b1 _ _ _ _ _ _ f6 h2 ⟨rfl,rfl,rfl,rfl,rfl,rfl,S2,F2⟩ bW
 refine⟨fun m i x1 x2 x3 x4 x5 x6 x7 h'=>∃j:Nat,i=j/\m+j=bB b (d-1)/\x1=(b:Int)/\x2=(d:Int)/\x3=(bB b (d-1):Nat)/\x5=aC/\x6=aC/\lg h.size h' b1 x4 aC aC x7 (List.replicate j k) [] [] (List.replicate (d+1) 0)/\Fr (fun k=>h.size<=k) h h',⟨bB b (d-1),0,rfl,by omega,rfl,rfl,rfl,rfl,rfl,S2,F2.aB⟩,?_⟩
 rintro m i _ _ _ x4 _ _ x7 h3 ⟨j,rfl,hm,rfl,rfl,rfl,rfl,rfl,S3,F3⟩ cF
 have z3:h.size<=h3.size:=F3.size
 refine⟨fun e=> ?_,fun e=> ?_⟩
 ·simp only[decide_eq_true_eq]at e
  refine fL _ fun x h4 o4 f4=>⟨x,rfl,cF.aB f4,?_⟩
  have S4:=S3.no f4
  have z4:=f4.size
  refine S4.D5 (by omega) o4.rd (by simp;omega) fun t h5 S5 f5 w5=>⟨t,rfl,gJ (cF.aB f4) f5 S4.nr,fun h6 f6 jJ=>⟨m-1,by omega,j+1,?_,by omega,rfl,rfl,rfl,rfl,rfl,?_,?_⟩⟩
  ·rw[aG _ (by omega) (by omega)];omega
  ·have:=S5.L8 f6 (by simp)
   rw[<-List.replicate_succ']at this
   exact this
  ·exact((F3.trans f4.aB).trans (f5.mono fun k _ hk=>(S4.r.aH hk).1)).trans (f6.mono fun k _ hk=>by simp[In]at hk;have:=S3.lb;omega)
 ·simp only[decide_eq_false_iff_not]at e
  have:j=bB b (d-1):=by omega
  subst this
  exact HK b1 h3 x4 x7 cF S3 (F3.mono fun k hk aI=>absurd aI (by omega))
theorem ZY{B D N:Nat}(q1:2<=B/\B<=3)(q2:1<=D/\D<=6)(q3:bB B D<=130){k:Int}(q4:0<=k/\k<=B)(q5:N<=200){h:Heap}(K:Value->Heap->Prop)
 (HK:∀b1 h' f3 f4 f5 f6,Vars h' [(b1,[VI B,VI D,VI (bB B (D-1):Nat),Sl.v f3,Sl.v f4,Sl.v f5,Sl.v f6])]->bL h' (fun k=>h.size<=k) f4 (nG B D N (List.replicate (bB B (D-1)) k)).2->Fr No h h'->K (VP b1 0) h'):aE Tryz.prog 191 #[VI B,VI D,VI k,VI N] h K:=by
 refine agH B D k N h K (Ma q1 q2 q3 k _ fun b1 h3 f3 f6 V3 S3 F3=>⟨some ⟨b1,0,none⟩,rfl,.nil,?_⟩)
 have hrr:=mL (m:=bB B (D-1)) q4
 have z3:=F3.size
 refine⟨fun m i h'=>∃(j:Nat)(x4 x5 x6 x7:Sl)(ts vs:List Int),i=j/\m+j=N/\Vars h' [(b1,[VI B,VI D,VI (bB B (D-1):Nat),x4.v,x5.v,x6.v,x7.v])]/\lg h.size h' b1 x4 x5 x6 x7 (nG B D j (List.replicate (bB B (D-1)) k)).1 (nG B D j (List.replicate (bB B (D-1)) k)).2 ts vs/\ts.length=j/\vs.length=D+1/\Fr (fun k=>h.size<=k) h h',⟨N,0,f3,aC,aC,f6,[],_,rfl,by omega,V3,S3,rfl,by simp,F3.aB⟩,?_⟩
 rintro m i h4 ⟨j,x4,x5,x6,x7,ts,vs,rfl,hm,dS,S4,t4,v4,F4⟩ _
 obtain⟨c1,c2,c3,c4⟩:=p4 (b:=B) (d:=D) (by omega) (by omega) j (rs:=List.replicate (bB B (D-1)) k) (by simp) hrr
 refine⟨fun e4=> ?_,fun e4=> ?_⟩
 ·simp only[decide_eq_true_eq]at e4
  refine TE q1 q2 (by have:=S4.lb;have:=S4.hb;omega) dS S4 c1 c2 v4 (by omega) (by omega) _ fun h5 t u ws pL V5 S5 l5 l6 f5=>⟨.nil,m-1,by omega,j+1,x4,t,u,x7,ws,pL,?_,by omega,V5,S5,by omega,l6,F4.trans f5⟩
  rw[aG _ (by omega) (by omega)];omega
 ·simp only[decide_eq_false_iff_not]at e4
  have:j=N:=by omega
  subst this
  exact HK b1 h4 x4 x5 x6 x7 dS S4.e (F4.mono fun k hk aI=>absurd aI (by omega))
theorem uS{h:Heap}(b d k n:Int)(K:Value->Heap->Prop)(HK:∀h',Fr No h h'->K (.tuple #[VI (zG b d k n).1,VB (zG b d k n).2]) h'):aE Tryz.prog 141 #[VI b,VI d,VI k,VI n] h K:=by
 refine v141 b d k n h K (L9 b d k n _ ⟨_,rfl,.nil,fun e=> ?_,fun e=> ?_⟩)
 ·unfold zG at HK
  rw[if_neg (by simpa using e)]at HK
  exact HK h (Fr.refl _ _)
 ·have e:qp b d k n=true:=by simpa using e
  unfold zG at HK
  rw[if_pos e]at HK
  obtain⟨B,D,N,rfl,rfl,rfl,q1,q2,q3,q4,q5⟩:=wO e
  simp only[Int.toNat_natCast]at HK
  obtain⟨c1,c2,c3,c4⟩:=p4 (b:=B) (d:=D) (by omega) (by omega) N (rs:=List.replicate (bB B (D-1)) k) (by simp) (mL q4)
  refine ZY q1 q2 q3 q4 q5 _ fun b1 h2 f3 f4 f5 f6 V O f=>⟨some ⟨b1,0,none⟩,rfl,.nil,b1,_,_,_,f3,f4,f5,f6,rfl,V,TF O.rd (fun x hx=>by have:=c4 x hx;omega) (by omega) _ ⟨_,rfl,V,HK h2 f⟩⟩
def kp(B C i:Nat):Nat:=(B.testBit i).toNat+2*(C.testBit i).toNat
def nxG(i r:Nat):Nat:=if r=0 then i+121 else if r=1 then i+1 else if r=2 then i-121 else i-1
def inG(i:Nat):Bool:=Nat.ble 121 i&&Nat.ble i 14519&& !(Nat.beq (i%121) 0)&& !(Nat.beq (i%121) 120)
def nQ:Nat->Nat->Nat->Nat->Nat->Option (Nat×Nat×Nat)
 |0,_,_,_,_=>none
 |n+1,A,B,C,i=>bif A.testBit i then
  bif inG i then nQ n A (B^^^2^i) (bif B.testBit i then C^^^2^i else C) (nxG i ((kp B C i+1)%4))else none
  else some (i,B,C)
def PH(n:Nat)(b:Bool):Nat:=bif b then 2^n-1 else 0
def mM(b:Bool):Nat:=PH 14641 b
def eQ(k:Nat):Nat->Option (Nat×Nat×Nat×List Nat)
 |0=>some (0,mM (k.testBit 0),mM (k.testBit 1),[])
 |n+1=>match eQ k n with
  |none=>none
  |some (A,B,C,l)=>match nQ 1000 A B C 7320 with
   |none=>none
   |some (i,B',C')=>some (A^^^2^i,B',C',l++[i])
def okG(k:Nat):Bool:=(eQ k 250).isSome
theorem KD(B C i:Nat):kp B C i<4:=by
 unfold kp
 have h1:=Bool.toNat_lt (B.testBit i)
 have h2:=Bool.toNat_lt (C.testBit i)
 omega
theorem kX(B i j:Nat):(B^^^2^i).testBit j=if j=i then !B.testBit j else B.testBit j:=by
 rw[Nat.testBit_xor,Nat.testBit_two_pow]
 by_cases h:j=i
 ·subst h;simp
 ·rw[if_neg h,decide_eq_false (fun e=>h e.symm)];simp
theorem uT(B C i j:Nat):kp (B^^^2^i) (bif B.testBit i then C^^^2^i else C) j=if j=i then(kp B C i+1)%4 else kp B C j:=by
 unfold kp
 by_cases h:j=i
 ·subst h
  rw[if_pos rfl,kX,if_pos rfl]
  cases hB:B.testBit j
  ·cases hC:C.testBit j<;>simp[hC]
  ·rw[cond_true,kX,if_pos rfl]
   cases hC:C.testBit j<;>simp
 ·rw[if_neg h,kX,if_neg h]
  cases hB:B.testBit i
  ·rfl
  ·rw[cond_true,kX,if_neg h]
theorem PI{i:Nat}(h:inG i=true):121<=i/\i<=14519/\i%121≠0/\i%121≠120:=by
 unfold inG at h
 simp only[Bool.and_eq_true,Bool.not_eq_true',Nat.ble_eq]at h
 exact⟨h.1.1.1,h.1.1.2,fun e=>by rw[e]at h;exact absurd h.1.2 (by decide),fun e=>by rw[e]at h;exact absurd h.2 (by decide)⟩
theorem PJ(n:Nat)(b:Bool){i:Nat}(h:i<n):(PH n b).testBit i=b:=by
 unfold PH
 cases b
 ·simp
 ·rw[cond_true,Nat.testBit_two_pow_sub_one]
  simp[h]
theorem Gq(b:Bool){i:Nat}(h:i<14641):(mM b).testBit i=b:=PJ 14641 b h
theorem Gr{k i:Nat}(hk:k<4)(h:i<14641):kp (mM (k.testBit 0)) (mM (k.testBit 1)) i=k:=by
 unfold kp
 rw[Gq _ h,Gq _ h]
 rcases(by omega:k=0\/k=1\/k=2\/k=3)with rfl|rfl|rfl|rfl<;>decide
theorem zH{k:Nat}:∀{m:Nat}(d:Nat),(eQ k (m+d)).isSome=true->(eQ k m).isSome=true
 |m,0,h=>h
 |m,d+1,h=>by
  refine zH d ?_
  rw[show m+(d+1)=(m+d)+1 by omega,eQ]at h
  cases hc:eQ k (m+d)with
  |none=>rw[hc]at h;exact h
  |some x=>rfl
theorem TG:∀k,k<4->okG k=true:=by
 have h0:okG 0=true:=by decide+kernel
 have h1:okG 1=true:=by decide+kernel
 have h2:okG 2=true:=by decide+kernel
 have h3:okG 3=true:=by decide+kernel
 intro k hk
 rcases(by omega:k=0\/k=1\/k=2\/k=3)with rfl|rfl|rfl|rfl
 ·exact h0
 ·exact h1
 ·exact h2
 ·exact h3
theorem lD{k n:Nat}(hk:k<4)(hn:n<=250):∃A B C l,eQ k n=some (A,B,C,l):=by
 have h:=zH (k:=k) (m:=n) (250-n) (by rw[Nat.add_sub_cancel' hn];exact TG k hk)
 obtain⟨⟨A,B,C,l⟩,h⟩:=Option.isSome_iff_exists.1 h
 exact⟨A,B,C,l,h⟩
theorem lE{k n A B C:Nat}{l:List Nat}(h:eQ k n=some (A,B,C,l)){A' B' C':Nat}{l':List Nat}(h':eQ k (n+1)=some (A',B',C',l')):∃i,nQ 1000 A B C 7320=some (i,B',C')/\A'=A^^^2^i/\l'=l++[i]:=by
 rw[eQ,h]at h'
 (try simp only at h')
 cases hw:nQ 1000 A B C 7320 with
 |none=>rw[hw]at h';cases h'
 |some x=>
  obtain⟨i,B1,C1⟩:=x
  rw[hw]at h'
  (try simp only[Option.some.injEq,Prod.mk.injEq]at h')
  obtain⟨rfl,rfl,rfl,rfl⟩:=h'
  exact⟨i,rfl,rfl,rfl⟩
theorem ie{k:Nat}:∀{n A B C:Nat}{l:List Nat},eQ k n=some (A,B,C,l)->l.length=n
 |0,A,B,C,l,h=>by
  rw[eQ]at h
  simp only[Option.some.injEq,Prod.mk.injEq]at h
  rw[<-h.2.2.2];rfl
 |n+1,A,B,C,l,h=>by
  cases hc:eQ k n with
  |none=>rw[eQ,hc]at h;cases h
  |some x=>
   obtain⟨A0,B0,C0,l0⟩:=x
   obtain⟨i,_,_,e⟩:=lE hc h
   rw[e,List.length_append,ie hc];rfl
theorem rD{n A B C i:Nat}{R:Nat×Nat×Nat}(h:nQ n A B C i=some R)(ht:A.testBit i=true):inG i=true/\∃m,n=m+1/\nQ m A (B^^^2^i) (bif B.testBit i then C^^^2^i else C) (nxG i ((kp B C i+1)%4))=some R:=by
 cases n with
 |zero=>cases h
 |succ m=>
  rw[nQ,ht,cond_true]at h
  cases hi:inG i with
  |false=>rw[hi]at h;cases h
  |true=>rw[hi]at h;exact⟨rfl,m,rfl,h⟩
theorem uU{n A B C i:Nat}{R:Nat×Nat×Nat}(h:nQ n A B C i=some R)(ht:A.testBit i=false):R=(i,B,C):=by
 cases n with
 |zero=>cases h
 |succ m=>
  rw[nQ,ht,cond_false]at h
  exact(Option.some.inj h).symm
def bI(x y:Int):Nat:=((x+60)*121+(y+60)).toNat
abbrev fM(x:Int):Prop:= -60<=x/\x<=60
theorem BL{x y u v:Int}(hx:fM x)(hy:fM y)(hu:fM u)(hv:fM v)(h:bI x y=bI u v):x=u/\y=v:=by
 unfold bI at h
 unfold fM at*
 omega
def mvX(x r:Int):Int:=if r=0 then x+1 else if r=2 then x-1 else x
def mvY(y r:Int):Int:=if r=1 then y+1 else if r=0 then y else if r=2 then y else y-1
theorem Gs{x y:Int}{i r:Nat}(hx:fM x)(hy:fM y)(e:bI x y=i)(h:inG i=true)(hr:r<4):fM (mvX x r)/\fM (mvY y r)/\bI (mvX x r) (mvY y r)=nxG i r:=by
 obtain⟨h1,h2,h3,h4⟩:=PI h
 unfold bI at*
 unfold fM at*
 have k1:x≠ -60:=fun hh=>by omega
 have k2:x≠60:=fun hh=>by omega
 have k3:y≠ -60:=fun hh=>by omega
 have k4:y≠60:=fun hh=>by omega
 unfold mvX mvY nxG
 rcases(by omega:r=0\/r=1\/r=2\/r=3)with rfl|rfl|rfl|rfl
 ·simp;omega
 ·simp;omega
 ·simp;omega
 ·simp;omega
def pA(n k:Int):List Int×Bool:=if 1<=n/\n<=250/\0<=k/\k<=3 then match eQ k.toNat n.toNat with
 |some (_,_,_,l)=>([((l.getLastD 0:Nat):Int)/121-60,((l.getLastD 0:Nat):Int)%121-60],true)
 |none=>([],false)
 else([],false)
structure nH(P:Program)(kt:TypeId)(f0 f1:Field):Prop where
 und:P.underlying kt=some (.struct #[f0,f1])
 i0:P.underlying f0.type=some (.int .i64)
 i1:P.underlying f1.type=some (.int .i64)
 n0:f0.name≠ "_"
 n1:f1.name≠ "_"
 o0:f0.offset=0
 o1:f1.offset=1
 st:P.stoodInHeld kt=false
def KV(x y:Int):Value:= .agg #[VI x,VI y]
theorem p5{P:Program}{t:TypeId}(h:P.underlying t=some (.int .i64)){cs:Array Value}{i:Nat}{v:Value}(hv:cs[i]?=some v)(w:World):(part t cs i).run P w= .ok v w:=by
 unfold part isAgg
 simp only[Sem.run_bind,run_underlying h,Result.andThen,Sem.run_pure]
 simp[hv]
theorem I9{P:Program}{kt:TypeId}{f0 f1:Field}(T:nH P kt f0 f1)(x y u v:Int)(w:World):(Op.equal kt (KV x y) (KV u v)).run P w= .ok (decide (x=u/\y=v)) w:=by
 have key:∀d,(Op.equalIn (d+2) kt (KV x y) (KV u v)).run P w= .ok (decide (x=u/\y=v)) w:=fun d=>by
  have e:∀(t:TypeId)(a b:Int),P.underlying t=some (.int .i64)->(Op.equalIn (d+1) t (VI a) (VI b)).run P w= .ok (a==b) w:=fun t a b h=>by
   unfold Op.equalIn
   simp[Sem.run_bind,run_underlying h,Result.andThen,VI]
  have p0:∀a b:Int,(part f0.type #[VI a,VI b] f0.offset).run P w= .ok (VI a) w:=fun a b=>by rw[T.o0];exact p5 T.i0 rfl w
  have p1:∀a b:Int,(part f1.type #[VI a,VI b] f1.offset).run P w= .ok (VI b) w:=fun a b=>by rw[T.o1];exact p5 T.i1 rfl w
  unfold Op.equalIn
  simp only[Sem.run_bind,run_underlying T.und,Result.andThen,KV,run_program,T.st]
  by_cases h0:x=u
  ·by_cases h1:y=v
   ·simp[h0,h1,T.n0,T.n1,Sem.run_pure,Sem.run_bind,Result.andThen,p0,p1,e _ _ _ T.i0,e _ _ _ T.i1]
   ·simp[h0,h1,T.n0,T.n1,Sem.run_pure,Sem.run_bind,Result.andThen,p0,p1,e _ _ _ T.i0,e _ _ _ T.i1]
  ·simp[h0,T.n0,T.n1,Sem.run_pure,Sem.run_bind,Result.andThen,p0,p1,e _ _ _ T.i0,e _ _ _ T.i1]
 exact key 9998
theorem gW{P:Program}{kt:TypeId}{f0 f1:Field}(T:nH P kt f0 f1)(em:Bool)(x y:Int)(w:World):(Instr.checkKey em 10000 kt (KV x y)).run P w= .ok () w:=by
 have e:∀(d:Nat)(t:TypeId)(a:Int),P.underlying t=some (.int .i64)->(Instr.checkKey em (d+1) t (VI a)).run P w= .ok () w:=fun d t a h=>by
  unfold Instr.checkKey
  simp[Sem.run_bind,run_underlying h,Result.andThen,VI]
 have p0:∀a b:Int,(part f0.type #[VI a,VI b] f0.offset).run P w= .ok (VI a) w:=fun a b=>by rw[T.o0];exact p5 T.i0 rfl w
 have p1:∀a b:Int,(part f1.type #[VI a,VI b] f1.offset).run P w= .ok (VI b) w:=fun a b=>by rw[T.o1];exact p5 T.i1 rfl w
 have key:∀d,(Instr.checkKey em (d+2) kt (KV x y)).run P w= .ok () w:=fun d=>by
  unfold Instr.checkKey
  simp only[Sem.run_bind,run_underlying T.und,Result.andThen,KV]
  simp[Sem.run_bind,Result.andThen,T.n0,T.n1,p0,p1,e d _ _ T.i0,e d _ _ T.i1]
 exact key 9998
def sY(h:Heap)(b:Nat)(eZ:List ((Int×Int)×Int)):Prop:=∃(es:Array MapEntry)(clock:Nat),h[b]?=some (.map es clock)/\es.toList.map (fun e=>(e.key,e.val))=eZ.map fun q=>(KV q.1.1 q.1.2,VI q.2)
theorem sY.lt{h:Heap}{b:Nat}{eZ:List ((Int×Int)×Int)}(M:sY h b eZ):b<h.size:=by
 obtain⟨es,c,hb,_⟩:=M
 exact(Array.getElem?_eq_some_iff.1 hb).1
theorem sY.fr{h h':Heap}{b:Nat}{eZ:List ((Int×Int)×Int)}{T:Nat->Prop}(M:sY h b eZ)(f:Fr T h h')(hT:¬T b):sY h' b eZ:=by
 have hl:=M.lt
 obtain⟨es,c,hb,e⟩:=M
 exact⟨es,c,by rw[f.same b hl hT];exact hb,e⟩
def gE:List ((Int×Int)×Int)->Int->Int->Option (Nat×Int)
 |[],_,_=>none
 |q::r,x,y=>if x=q.1.1/\y=q.1.2 then some (0,q.2)else(gE r x y).map fun p=>(p.1+1,p.2)
theorem ac0{P:Program}{kt:TypeId}{f0 f1:Field}(T:nH P kt f0 f1)(x y:Int)(w:World):∀(l:List MapEntry)(eZ:List ((Int×Int)×Int))(i:Nat),l.map (fun e=>(e.key,e.val))=eZ.map (fun q=>(KV q.1.1 q.1.2,VI q.2))->(Instr.findAsking kt (KV x y) l i).run P w= .ok ((gE eZ x y).map fun p=>(i+p.1,VI p.2)) w
 |[],[],i,_=>by simp[Instr.findAsking,gE]
 |[],q::r,i,h=>by simp at h
 |e::l,[],i,h=>by simp at h
 |e::l,q::r,i,h=>by
  simp only[List.map_cons,List.cons.injEq,Prod.mk.injEq]at h
  obtain⟨⟨h1,h2⟩,h3⟩:=h
  unfold Instr.findAsking gE
  simp only[Sem.run_bind,h1,I9 T,Result.andThen]
  by_cases hq:x=q.1.1/\y=q.1.2
  ·simp[hq,h2,Sem.run_pure]
  ·rw[if_neg (by simpa using hq),if_neg hq,ac0 T x y w l r (i+1) h3]
   simp[Option.map_map,Function.comp_def,Nat.add_assoc,Nat.add_comm 1]
theorem Eb{kt:TypeDesc}{x y:Int}(hk:∀k,kt≠ .int k):∀(l:List MapEntry)(i:Nat),l≠[]->(∀e,e∈l->∃u v,e.key=KV u v)->Instr.findNow kt (KV x y) l i=none
 |[],_,h,_=>absurd rfl h
 |e::l,i,_,h=>by
  obtain⟨u,v,he⟩:=h e List.mem_cons_self
  unfold Instr.findNow
  have:Instr.sameNow kt (KV x y) e.key=none:=by rw[he];cases kt<;>rfl
  rw[this]
theorem iP{P:Program}{kt:TypeId}{f0 f1:Field}(T:nH P kt f0 f1)(x y:Int)(w:World){l:List MapEntry}{eZ:List ((Int×Int)×Int)}(h:l.map (fun e=>(e.key,e.val))=eZ.map (fun q=>(KV q.1.1 q.1.2,VI q.2))):(Instr.findKey kt (KV x y) l).run P w= .ok ((gE eZ x y).map fun p=>(p.1,VI p.2)) w:=by
 unfold Instr.findKey
 simp only[Sem.run_bind,run_underlying T.und,Result.andThen]
 by_cases hl:l=[]
 ·subst hl
  have:eZ=[]:=by cases eZ with
   |nil=>rfl
   |cons q r=>simp at h
  subst this
  rfl
 ·rw[Eb (fun k hk=>by cases hk) l 0 hl fun e he=>by
   have:(e.key,e.val)∈l.map (fun e=>(e.key,e.val)):=List.mem_map.2 ⟨e,he,rfl⟩
   rw[h]at this
   obtain⟨q,_,hq⟩:=List.mem_map.1 this
   exact⟨_,_,(Prod.mk.inj hq).1.symm⟩]
  have:=ac0 T x y w l eZ 0 h
  simp only[Nat.zero_add]at this
  exact this
theorem Gt{P:Program}{t kt et:TypeId}{f0 f1:Field}{h:Heap}{b:Nat}{eZ:List ((Int×Int)×Int)}{x y:Int}(T:nH P kt f0 f1)(hm:P.underlying t=some (.map kt et))(hz:oA P et=some (VI 0))(M:sY h b eZ){K:Value->Prop}(HK:K (.tuple #[VI (((gE eZ x y).map (·.2)).getD 0),VB (gE eZ x y).isSome])):zU P (Instr.lookup t (.map (some b)) (KV x y) true) h K:=by
 obtain⟨es,c,hb,e⟩:=M
 refine⟨_,fun w hw=> ?_,HK⟩
 subst hw
 have hzr:(zeroValue et).run P w= .ok (VI 0) w:=by
  unfold oA at hz
  cases hi:P.info? et with
  |none=>rw[hi]at hz;simp at hz
  |some i=>
   rw[hi]at hz
   simp only[Option.bind_some]at hz
   unfold zeroValue
   rw[aK (dQ hi w)]
   simp[hz,pure,Sem.run]
 unfold Instr.lookup
 simp only[Sem.run_bind,run_underlying hm,Result.andThen,MapKept.run_getObj_map hb,gW T,iP T x y w e]
 cases hs:gE eZ x y with
 |none=>simp[gW T,iP T x y w e,hs,Sem.run,pure,hzr,Result.andThen]
 |some p=>simp[gW T,iP T x y w e,hs,Sem.run,pure,Result.andThen]
theorem Ap(x y:Int):Instr.sameBits 10000 (KV x y) (KV x y)=true:=by
 have key:∀d,Instr.sameBits (d+1) (KV x y) (KV x y)=true:=fun d=>by simp[Instr.sameBits,KV,VI]
 exact key 9999
theorem PK{P:Program}{t kt et:TypeId}{f0 f1:Field}{h:Heap}{b:Nat}{eZ:List ((Int×Int)×Int)}{x y v:Int}(T:nH P kt f0 f1)(hm:P.underlying t=some (.map kt et))(M:sY h b eZ){j:Nat}{r:Int}(hf:gE eZ x y=some (j,r)){K:Value->Heap->Prop}(HK:∀u h',sY h' b (eZ.set j ((x,y),v))->Fr (In [b]) h h'->K u h'):At P (Instr.mapUpdate t (.map (some b)) (KV x y) (VI v)) h K:=by
 have hl:=M.lt
 obtain⟨es,c,hb,e⟩:=M
 have hkj:∀(eZ:List ((Int×Int)×Int))(j:Nat),gE eZ x y=some (j,r)->∃h:j<eZ.length,eZ[j].1=(x,y):=by
  intro eZ
  induction eZ with
  |nil=>intro j h;cases h
  |cons q l ih=>
   intro j h
   unfold gE at h
   split at h
   ·rename_i hq
    obtain⟨rfl,_⟩:=Prod.mk.inj (Option.some.inj h)
    exact⟨by simp,by simp[hq]⟩
   ·cases hl:gE l x y with
    |none=>rw[hl]at h;cases h
    |some p=>
     rw[hl]at h
     obtain⟨p1,p2⟩:=p
     simp only[Option.map_some,Option.some.injEq,Prod.mk.injEq]at h
     obtain⟨rfl,rfl⟩:=h
     obtain⟨a,b⟩:=ih p1 hl
     exact⟨by simpa using a,by simpa using b⟩
 obtain⟨hj,hq⟩:=hkj eZ j hf
 have hlen:es.toList.length=eZ.length:=by have:=congrArg List.length e;simpa using this
 have HL:j<es.size:=by have:es.toList.length=es.size:=Array.length_toList;omega
 have hk:es[j].key=KV x y:=by
  have:(es.toList.map (fun e=>(e.key,e.val)))[j]'(by simpa using HL)=(eZ.map fun q=>(KV q.1.1 q.1.2,VI q.2))[j]'(by simpa using hj):=by simp only[e]
  simp only[List.getElem_map,Array.getElem_toList,Prod.mk.injEq,hq]at this
  exact this.1
 refine⟨fun w hw=> ?_⟩
 subst hw
 refine⟨{w with heap:=w.heap.setIfInBounds b (.map (es.modify j fun e=>{e with key:=KV x y,val:=VI v}) c)},?_,⟨rfl,rfl,rfl⟩,HK _ _ ⟨es.modify j fun e=>{e with key:=KV x y,val:=VI v},c,?_,?_⟩ ⟨by simp,fun i hi dZ=> ?_⟩⟩
 ·unfold Instr.mapUpdate
  simp only[Sem.run_bind,run_underlying hm,Result.andThen,MapKept.run_getObj_map hb,gW T,iP T x y w e,hf,Option.map_some]
  have:((es[j]?).map (·.key)).getD (KV x y)=KV x y:=by rw[Array.getElem?_eq_getElem HL];simp[hk]
  simp only[this,Instr.keyThatStays,Ap,if_true,Sem.run_pure,MapKept.run_setObj_map _ hb]
 ·simp only
  rw[Array.getElem?_setIfInBounds,if_pos rfl,if_pos hl]
 ·rw[Array.toList_modify]
  apply List.ext_getElem?
  intro i
  have ei:=congrArg (fun l=>l[i]?) e
  simp only[List.getElem?_map]at ei⊢
  rw[List.getElem?_modify,List.getElem?_set]
  by_cases Uf:j=i
  ·subst Uf
   rw[if_pos rfl,if_pos hj,List.getElem?_eq_getElem (by omega)]
   simp
  ·rw[if_neg Uf,<-ei]
   cases es.toList[i]?<;>simp[Uf]
 ·simp only
  rw[Array.getElem?_setIfInBounds,if_neg (fun hh=>dZ (by simp[In,hh]))]
theorem PL{P:Program}{t kt et:TypeId}{f0 f1:Field}{h:Heap}{b:Nat}{eZ:List ((Int×Int)×Int)}{x y v:Int}(T:nH P kt f0 f1)(hm:P.underlying t=some (.map kt et))(M:sY h b eZ)(hf:gE eZ x y=none){K:Value->Heap->Prop}(HK:∀u h',sY h' b (eZ++[((x,y),v)])->Fr (In [b]) h h'->K u h'):At P (Instr.mapUpdate t (.map (some b)) (KV x y) (VI v)) h K:=by
 have hl:=M.lt
 obtain⟨es,c,hb,e⟩:=M
 refine⟨fun w hw=> ?_⟩
 subst hw
 refine⟨{w with heap:=w.heap.setIfInBounds b (.map (es.push {key:=KV x y,val:=VI v,born:=c}) (c+1))},?_,⟨rfl,rfl,rfl⟩,HK _ _ ⟨es.push {key:=KV x y,val:=VI v,born:=c},c+1,?_,?_⟩ ⟨by simp,fun j hj dZ=> ?_⟩⟩
 ·unfold Instr.mapUpdate
  simp only[Sem.run_bind,run_underlying hm,Result.andThen,MapKept.run_getObj_map hb,gW T,iP T x y w e,hf,Option.map_none,MapKept.run_setObj_map _ hb]
 ·simp only
  rw[Array.getElem?_setIfInBounds,if_pos rfl,if_pos hl]
 ·rw[Array.toList_push,List.map_append,List.map_append,e]
  rfl
 ·simp only
  rw[Array.getElem?_setIfInBounds,if_neg (fun hh=>dZ (by simp[In,hh]))]
theorem Ec{P:Program}{t:TypeId}{h:Heap}{K:Value->Heap->Prop}(HK:∀h',sY h' h.size []->Fr No h h'->h.size<h'.size->K (.map (some h.size)) h'):iU P (Instr.makeMap t none) h K:=by
 refine⟨fun w hw=> ?_⟩
 subst hw
 refine⟨_,_,run_makeMap_plain w t,⟨rfl,rfl,rfl⟩,HK _ ⟨#[],0,?_,rfl⟩ (Fr.push w.heap _) ?_⟩
 ·show(w.heap.push _)[w.heap.size]?=_
  simp
 ·show w.heap.size<(w.heap.push _).size
  simp
def rF(eZ:List ((Int×Int)×Int))(x y:Int):Option Int:=(gE eZ x y).map (·.2)
theorem iq(q:(Int×Int)×Int)(r:List ((Int×Int)×Int))(x y:Int):rF (q::r) x y=if x=q.1.1/\y=q.1.2 then some q.2 else rF r x y:=by
 unfold rF
 rw[gE]
 split
 ·rfl
 ·rw[Option.map_map];rfl
theorem Gu{x y v:Int}:∀{eZ:List ((Int×Int)×Int)}{j:Nat}{r:Int},gE eZ x y=some (j,r)->∀u z,rF (eZ.set j ((x,y),v)) u z=if u=x/\z=y then some v else rF eZ u z
 |[],_,_,h=>by cases h
 |q::l,j,r,h=>fun u z=>by
  rw[gE]at h
  split at h
  ·rename_i hq
   obtain⟨rfl,_⟩:=Prod.mk.inj (Option.some.inj h)
   rw[List.set_cons_zero,iq,iq]
   (try simp only)
   by_cases hu:u=x/\z=y
   ·rw[if_pos hu,if_pos hu]
   ·rw[if_neg hu,if_neg hu,if_neg (by rw[<-hq.1,<-hq.2];exact hu)]
  ·rename_i hq
   cases hl:gE l x y with
   |none=>rw[hl]at h;cases h
   |some p=>
    rw[hl]at h
    obtain⟨p1,p2⟩:=p
    simp only[Option.map_some,Option.some.injEq,Prod.mk.injEq]at h
    obtain⟨rfl,rfl⟩:=h
    rw[List.set_cons_succ,iq,iq,Gu hl]
    by_cases hu:u=x/\z=y
    ·rw[if_pos hu,if_neg (by rw[hu.1,hu.2];exact hq),if_pos hu]
    ·rw[if_neg hu,if_neg hu]
theorem Gv{x y v:Int}:∀{eZ:List ((Int×Int)×Int)},rF eZ x y=none->∀u z,rF (eZ++[((x,y),v)]) u z=if u=x/\z=y then some v else rF eZ u z
 |[],_=>fun u z=>by
  rw[List.nil_append,iq]
 |q::l,h=>fun u z=>by
  rw[iq]at h
  split at h
  ·cases h
  ·rename_i hq
   rw[List.cons_append,iq,iq,Gv h]
   by_cases hu:u=x/\z=y
   ·rw[if_pos hu,if_neg (by rw[hu.1,hu.2];exact hq),if_pos hu]
   ·rw[if_neg hu,if_neg hu]
def zI(eZ:List ((Int×Int)×Int))(A B C:Nat):Prop:=∀x y,rF eZ x y=if fM x/\fM y/\A.testBit (bI x y)=true then some (kp B C (bI x y):Int)else none
theorem KE{x y:Int}(hx:fM x)(hy:fM y):bI x y<14641:=by
 unfold bI fM at*
 omega
theorem zI.first(k:Nat):zI [] 0 (mM (k.testBit 0)) (mM (k.testBit 1)):=fun x y=>by
 rw[Nat.zero_testBit,if_neg (by simp)]
 rfl
theorem zI.set{eZ:List ((Int×Int)×Int)}{A B C:Nat}(R:zI eZ A B C){x y:Int}(hx:fM x)(hy:fM y){j:Nat}{r:Int}(hf:gE eZ x y=some (j,r)):zI (eZ.set j ((x,y),(((kp B C (bI x y)+1)%4:Nat):Int))) A (B^^^2^bI x y) (bif B.testBit (bI x y)then C^^^2^bI x y else C):=fun u z=>by
 rw[Gu hf,R u z]
 have hA:A.testBit (bI x y)=true:=by
  have:=R x y
  unfold rF at this
  rw[hf]at this
  by_cases hb:A.testBit (bI x y)=true
  ·exact hb
  ·rw[if_neg (fun h=>hb h.2.2)]at this;cases this
 rw[uT]
 by_cases hu:u=x/\z=y
 ·obtain⟨rfl,rfl⟩:=hu
  rw[if_pos ⟨rfl,rfl⟩,if_pos ⟨hx,hy,hA⟩,if_pos rfl]
 ·rw[if_neg hu]
  by_cases hh:fM u/\fM z/\A.testBit (bI u z)=true
  ·rw[if_pos hh,if_pos hh,if_neg (fun e=>hu (BL hh.1 hh.2.1 hx hy e))]
  ·rw[if_neg hh,if_neg hh]
def nR(k A B C:Nat):Prop:=∀i,i<14641->A.testBit i=false->kp B C i=k
theorem nR.first{k:Nat}(hk:k<4):nR k 0 (mM (k.testBit 0)) (mM (k.testBit 1)):=fun _ h _=>Gr hk h
theorem nR.step{k A B C i:Nat}(R:nR k A B C)(hA:A.testBit i=true):nR k A (B^^^2^i) (bif B.testBit i then C^^^2^i else C):=fun j hj h=>by
 rw[uT,if_neg (fun e=>by rw[e,hA]at h;cases h)]
 exact R j hj h
theorem nR.grow{k A B C i:Nat}(R:nR k A B C):nR k (A^^^2^i) B C\/A.testBit i=true:=by
 by_cases hA:A.testBit i=true
 ·exact .inr hA
 ·refine .inl fun j hj h=>R j hj ?_
  rw[kX]at h
  split at h
  ·rename_i e;rw[e]at h;simp[hA]at h
  ·exact h
theorem zI.new{eZ:List ((Int×Int)×Int)}{A B C k:Nat}(R:zI eZ A B C)(R2:nR k A B C){x y:Int}(hx:fM x)(hy:fM y)(hA:A.testBit (bI x y)=false):rF eZ x y=none/\zI (eZ++[((x,y),(k:Int))]) (A^^^2^bI x y) B C:=by
 have hn:rF eZ x y=none:=by rw[R x y,if_neg (fun h=>by rw[hA]at h;cases h.2.2)]
 refine⟨hn,fun u z=> ?_⟩
 rw[Gv hn,R u z,kX]
 by_cases hu:u=x/\z=y
 ·obtain⟨rfl,rfl⟩:=hu
  rw[if_pos ⟨rfl,rfl⟩,if_pos ⟨hx,hy,by simp[hA]⟩,R2 _ (KE hx hy) hA]
 ·rw[if_neg hu]
  by_cases hf:fM u/\fM z
  ·rw[if_neg (c:=bI u z=bI x y) (fun e=>hu (BL hf.1 hf.2 hx hy e))]
  ·rw[if_neg (fun h=>hf ⟨h.1,h.2.1⟩),if_neg (fun h=>hf ⟨h.1,h.2.1⟩)]
theorem sZ{x y:Int}(hx:fM x)(hy:fM y):((bI x y:Nat):Int)/121-60=x/\((bI x y:Nat):Int)%121-60=y:=by
 unfold bI fM at*
 omega
def iQ(l:List Nat):List Value:=(l.map fun i:Nat=>[VI ((i:Int)/121-60),VI ((i:Int)%121-60)]).flatten
theorem nI:∀l:List Nat,(iQ l).length=l.length*2
 |[]=>rfl
 |i::l=>by
  have:=nI l
  unfold iQ at*
  simp only[List.map_cons,List.flatten_cons,List.length_append,List.length_cons,List.length_nil,this]
  omega
theorem Gw(l:List Nat)(i:Nat):iQ (l++[i])=iQ l++[VI ((i:Int)/121-60),VI ((i:Int)%121-60)]:=by
 unfold iQ
 rw[List.map_append,List.flatten_append]
 simp
theorem zJ:∀{l:List Nat}{j:Nat}(h:j<l.length),(iQ l)[j*2]?=some (VI ((l[j]:Int)/121-60))/\(iQ l)[j*2+1]?=some (VI ((l[j]:Int)%121-60))
 |i::l,0,h=>⟨rfl,rfl⟩
 |i::l,j+1,h=>by
  have:=zJ (l:=l) (j:=j) (by simpa using h)
  have e:iQ (i::l)=VI ((i:Int)/121-60)::VI ((i:Int)%121-60)::iQ l:=rfl
  rw[e,show(j+1)*2=j*2+1+1 by omega,show j*2+1+1+1=(j*2+1)+1+1 by omega]
  simp only[List.getElem?_cons_succ,List.getElem_cons_succ]
  exact this
def UL(P:Program)(kt:TypeId):Bool:=match P.underlying kt with
 |some (.struct fs)=>match fs.toList with
  |[f0,f1]=>(match P.underlying f0.type with|some (.int .i64)=>true|_=>false)&&(match P.underlying f1.type with|some (.int .i64)=>true|_=>false)&& !(f0.name== "_")&& !(f1.name== "_")&&Nat.beq f0.offset 0&&Nat.beq f1.offset 1&& !P.stoodInHeld kt
  |_=>false
 |_=>false
theorem Ja{P:Program}{kt:TypeId}(h:UL P kt=true):∃f0 f1,nH P kt f0 f1:=by
 unfold UL at h
 split at h
 ·rename_i fs hu
  split at h
  ·rename_i f0 f1 hf
   simp only[Bool.and_eq_true,Bool.not_eq_true']at h
   obtain⟨⟨⟨⟨⟨⟨h1,h2⟩,h3⟩,h4⟩,h5⟩,h6⟩,h7⟩:=h
   refine⟨f0,f1,?_,?_,?_,by simpa using h3,by simpa using h4,Nat.eq_of_beq_eq_true h5,Nat.eq_of_beq_eq_true h6,h7⟩
   ·rw[hu]
    congr 2
    apply Array.ext'
    exact hf
   ·split at h1
    ·assumption
    ·cases h1
   ·split at h2
    ·assumption
    ·cases h2
  ·cases h
 ·cases h
@[reducible] def ZZ:TypeId:=220
@[reducible] def ake:TypeId:=222
@[reducible] def tCm:TypeId:=221
theorem ac1:nb Tryz.prog ake=some (ZZ,2,16,[VI 0,VI 0]):=by kernel_rfl
theorem Z8:∃f0 f1,nH Tryz.prog ZZ f0 f1:=Ja (by kernel_rfl)
theorem Z9{x y:Int}{r:Nat}(hx:fM x)(hy:fM y)(hr:r<4){h:Heap}(K:Value->Heap->Prop)(HK:∀h',Fr No h h'->K (.agg #[VI (mvX x r),VI (mvY y r)]) h'):aE Tryz.prog 265 #[.agg #[VI x,VI y],VI r] h K:=by
 unfold fM at hx hy
 refine ah6 x y r h K ⟨fun e b1 b2 h3 _ _ f3 _=> ?_,fun e=>⟨fun e2 b1 b2 h3 _ _ f3 _=> ?_,fun e2=>⟨fun e3 b1 b2 h3 _ _ f3 _=> ?_,fun e3 b1 b2 h3 _ _ f3 _=> ?_⟩⟩⟩
 ·simp only[decide_eq_true_eq]at e
  rw[aG _ (by omega) (by omega)]
  have:=HK h3 f3.aF
  rw[e]at this
  exact this
 ·simp only[decide_eq_true_eq]at e2
  rw[aG _ (by omega) (by omega)]
  have:=HK h3 f3.aF
  rw[e2]at this
  exact this
 ·simp only[decide_eq_true_eq]at e3
  rw[aG _ (by omega) (by omega)]
  have:=HK h3 f3.aF
  rw[e3]at this
  exact this
 ·simp only[decide_eq_false_iff_not]at e e2 e3
  rw[aG _ (by omega) (by omega)]
  have:=HK h3 f3.aF
  have e5:(r:Int)=3:=by omega
  rw[e5]at this
  exact this
set_option maxHeartbeats 4000000 in
theorem aaa{N k:Nat}(hN:N<=250)(hk:k<4){h:Heap}(K:Value->Heap->Prop)
 (HK:∀b1 m s st h' A B C l,eQ k N=some (A,B,C,l)->Vars h' [(b1,[.map m,Sl.v s,VI st])]->Ow h' (fun q=>h.size<=q) ZZ 2 s (iQ l)->Fr No h h'->K (VP b1 0) h'):aE Tryz.prog 264 #[VI N,VI k,VI 4,.func (.func 265) #[] #[]] h K:=by
 obtain⟨c0,c1,CT⟩:=Z8
 have hm:Tryz.prog.underlying tCm=some (.map ZZ tI):=by kernel_rfl
 have hz:oA Tryz.prog tI=some (VI 0):=by kernel_rfl
 refine ah4 N k 4 _ h K (Ec fun h1 M1 f1 z1=>⟨some h.size,rfl,.nil,fun b1 h2 eD f2 bW=> ?_⟩)
 have f2:=f2.aF
 have z2:=f2.size
 have l1:b1<h2.size:=bW.head.lt
 have M2:=M1.fr f2 fun h=>h
 refine⟨fun n t x1 x2 x3 h'=>∃(j A B C:Nat)(l:List Nat)(eZ:List ((Int×Int)×Int)),t=j/\n+j=N/\eQ k j=some (A,B,C,l)/\x1=some h.size/\sY h' h.size eZ/\zI eZ A B C/\nR k A B C/\Ow h' (fun q=>h.size<q/\q≠b1) ZZ 2 x2 (iQ l)/\Fr (fun q=>h.size<=q) h h',
  ⟨N,0,_,_,_,_,[],rfl,by omega,rfl,rfl,M2,zI.first k,nR.first hk,Ow.nil _ _ _ _,(f1.aA f2).aB⟩,?_⟩
 rintro n t _ x2 x3 h3 ⟨j,A,B,C,l,eZ,rfl,hn,hc,rfl,M3,R3,T3,O3,F3⟩ cF
 have z3:=F3.size
 have l3:b1<h3.size:=cF.head.lt
 have ll:=ie hc
 refine⟨fun e=> ?_,fun e=> ?_⟩
 ·simp only[decide_eq_true_eq]at e
  intro b2 h5 dK f5 gj
  have f5:=f5.aF
  have z5:=f5.size
  obtain⟨A',B',C',l',Qd⟩:=lD (k:=k) (n:=j+1) hk (by omega)
  obtain⟨i9,hw,rfl,rfl⟩:=lE hc Qd
  have hM:sY h5 h.size eZ:=M3.fr f5 fun h=>h
  refine⟨fun m x y x6 x7 x8 h'=>∃(B2 C2:Nat)(eZ:List ((Int×Int)×Int)),nQ m A B2 C2 (bI x y)=some (i9,B',C')/\fM x/\fM y/\x6=some h.size/\x7=x2/\sY h' h.size eZ/\zI eZ A B2 C2/\nR k A B2 C2/\Ow h' (fun q=>h.size<q/\q≠b1) ZZ 2 x2 (iQ l)/\b2<h'.size/\Fr (fun q=>h.size<=q) h h',
   ⟨1000,B,C,eZ,hw,by decide,by decide,rfl,rfl,hM,R3,T3,Ow.no O3 f5,gj.head.lt,F3.trans f5.aB⟩,?_⟩
  rintro m x y _ x7 x8 h6 ⟨B2,C2,TH,hw2,hx,hy,rfl,rfl,M6,R6,T6,O6,l6,F6⟩ jJ
  have v6:=R6 x y
  have TI:∀{X Y:Heap},Fr (In [h.size]) X Y->∀p,p∈[(b2,[VI x,VI y]),(b1,[Value.map (some h.size),x7.v,VI x8])]->¬In [h.size] p.1:=fun _ p hp hk=>by
   simp only[In,List.mem_singleton]at hk
   simp only[List.mem_cons,List.not_mem_nil,or_false]at hp
   rcases hp with rfl|rfl
   ·simp only at hk;omega
   ·simp only at hk;omega
  have z6:=F6.size
  refine Gt CT hm hz M6 ⟨_,_,rfl,fun e2=> ?_,fun e2=> ?_⟩
  ·have hf:gE TH x y=none:=by simpa using e2
   have hA:A.testBit (bI x y)=false:=by
    unfold rF at v6
    rw[hf]at v6
    cases hb:A.testBit (bI x y)with
    |false=>rfl
    |true=>rw[if_pos ⟨hx,hy,hb⟩]at v6;cases v6
   have hR:=uU hw2 hA
   simp only[Prod.mk.injEq]at hR
   obtain⟨rfl,rfl,rfl⟩:=hR
   obtain⟨_,R7⟩:=R6.new T6 hx hy hA
   refine PL CT hm M6 hf fun u h7 M7 f7=>⟨jJ.fr f7 (TI f7),?_⟩
   have z7:=f7.size
   have jA:=jJ.fr f7 (TI f7)
   have O7:=Ow.fr O6 f7 fun q hq gK=>by have:=(O6.aH hq).1.1;simp only[In,List.mem_singleton]at gK;omega
   refine aP ac1 (fun q=>h7.size<=q) (fun _ h=>h) 1 (by omega) [VI x,VI y] rfl rfl fun s h8 n8 c8 o8 f8 m8 _=>⟨s,rfl,jA.aB f8,?_⟩
   have z8:=f8.size
   have l7:b1<h8.size:=(jA.aB f8).tail.head.lt
   have sl:x7.n=l.length:=by have:=O7.rd.len;rw[nI]at this;omega
   refine bM ac1 (Ow.no O7 f8) (fun q hq=>⟨by omega,by omega⟩) o8.rd rfl (by omega) fun t9 h9 n9 o9 f9 w9=> ?_
   have akf:∀p,p∈[(b2,[VI x,VI y]),(b1,[Value.map (some h.size),x7.v,VI x8])]->¬x7.own p.1:=fun p hp hk=>by
    simp only[List.mem_cons,List.not_mem_nil,or_false]at hp
    rcases hp with rfl|rfl
    ·have:=(O3.aH hk).2;simp only at this;omega
    ·exact(O7.aH hk).1.2 rfl
   refine⟨t9,rfl,(jA.aB f8).fr f9 akf,fun dV f10 dL=> ?_⟩
   have z9:=f9.size
   have mo:∀{q:Nat},In [b1] q->h.size<q:=fun hq=>by simp only[In,List.mem_singleton]at hq;omega
   have M10:=((M7.fr f8 fun h=>h).fr f9 fun hq=>by have:=(O7.aH hq).1.1;omega).fr f10 fun hq=>by have:=mo hq;omega
   refine⟨n-1,by omega,j+1,_,_,_,_,_,?_,by omega,Qd,rfl,M10,R7,?_,?_,?_⟩
   ·rw[aG _ (by omega) (by omega)];omega
   ·rcases T6.grow (i:=bI x y)with hh|hh
    ·exact hh
    ·rw[hA]at hh;cases hh
   ·rw[Gw,(sZ hx hy).1,(sZ hx hy).2]
    exact Ow.fr o9 f10 fun q hq gK=>by simp only[In,List.mem_singleton]at gK;exact(o9.aH hq).1.2 gK
   ·refine(((F6.trans (f7.mono fun q _ hq=>by simp only[In,List.mem_singleton]at hq;omega)).trans f8.aB).trans (f9.mono fun q _ hq=>by have:=(O7.aH hq).1.1;omega)).trans (f10.mono fun q _ hq=>by have:=mo hq;omega)
  ·obtain⟨p,hf⟩:∃p,gE TH x y=some p:=by
    cases hf:gE TH x y with
    |none=>rw[hf]at e2;cases e2
    |some p=>exact⟨p,rfl⟩
   obtain⟨jj,rr⟩:=p
   have hA:A.testBit (bI x y)=true:=by
    unfold rF at v6
    rw[hf]at v6
    cases hb:A.testBit (bI x y)with
    |true=>rfl
    |false=>rw[if_neg (fun h=>by rw[hb]at h;cases h.2.2)]at v6;cases v6
   have hrr:rr=(kp B2 C2 (bI x y):Int):=by
    unfold rF at v6
    rw[hf,if_pos ⟨hx,hy,hA⟩]at v6
    exact Option.some.inj v6
   subst hrr
   obtain⟨hi,m',rfl,hw3⟩:=rD hw2 hA
   have tt:=KD B2 C2 (bI x y)
   have et:Int.tmod (aL (((Option.map (fun p:Nat×Int=>p.2) (gE TH x y)).getD 0)+1)) 4=(((kp B2 C2 (bI x y)+1)%4:Nat):Int):=by
    rw[hf]
    simp only[Option.map_some,Option.getD_some]
    rw[aG _ (by omega) (by omega),Int.tmod_eq_emod_of_nonneg (by omega)]
    omega
   rw[et]
   obtain⟨g1,g2,g3⟩:=Gs (r:=(kp B2 C2 (bI x y)+1)%4) hx hy rfl hi (by omega)
   refine⟨by omega,PK CT hm M6 hf fun u h7 M7 f7=>⟨jJ.fr f7 (TI f7),?_⟩⟩
   have z7:=f7.size
   have jA:=jJ.fr f7 (TI f7)
   have O7:=Ow.fr O6 f7 fun q hq gK=>by have:=(O6.aH hq).1.1;simp only[In,List.mem_singleton]at gK;omega
   refine Z9 hx hy (by omega) _ fun h8 f8=>⟨_,_,rfl,jA.aB f8,fun dV f10 dL=>⟨m',by omega,_,_,_,by rw[g3];exact hw3,g1,g2,rfl,rfl,?_,R6.set hx hy hf,T6.step hA,?_,dL.head.lt,?_⟩⟩
   ·exact(M7.fr f8 fun h=>h).fr f10 fun hq=>by simp only[In,List.mem_cons,List.not_mem_nil,or_false]at hq;omega
   ·refine Ow.fr (Ow.no O7 f8) f10 fun q hq gK=> ?_
    simp only[In,List.mem_cons,List.not_mem_nil,or_false]at gK
    have h1:=(O3.aH hq)
    rcases gK with rfl|rfl
    ·exact h1.1.2 rfl
    ·have:=h1.2;omega
   ·exact((F6.trans (f7.mono fun q _ hq=>by simp only[In,List.mem_singleton]at hq;omega)).trans f8.aB).trans (f10.mono fun q _ hq=>by simp only[In,List.mem_cons,List.not_mem_nil,or_false]at hq;omega)
 ·simp only[decide_eq_false_iff_not]at e
  have:j=N:=by omega
  subst this
  exact HK b1 _ x2 x3 h3 A B C l hc cF (O3.mono fun q _ hq=>by omega) (F3.mono fun q hq gK=>absurd gK (by omega))
theorem TJ{h:Heap}(n k:Int)(K:Value->Heap->Prop)(HN:¬(0<=n/\n<=250/\0<=k/\k<=3)->K (.tuple #[.pointer none,VB false]) h)
 (HY:0<=n/\n<=250/\0<=k/\k<=3->∀b1 m s st h' A B C l,eQ k.toNat n.toNat=some (A,B,C,l)->Vars h' [(b1,[.map m,Sl.v s,VI st])]->Ow h' (fun q=>h.size<=q) ZZ 2 s (iQ l)->Fr No h h'->K (.tuple #[VP b1 0,VB true]) h'):aE Tryz.prog 220 #[VI n,VI k] h K:=by
 refine ahi n k h K (eJ _ _ _ h _ ⟨_,rfl,.nil,fun e=>HN fun hh=> ?_,fun e=> ?_⟩)
 ·simp at e;omega
 have e:0<=n/\n<=250:=by simpa using e
 refine eJ _ _ _ h _ ⟨_,rfl,.nil,fun e2=>HN fun hh=> ?_,fun e2=> ?_⟩
 ·simp at e2;omega
 have e2:0<=k/\k<=3:=by simpa using e2
 replace HY:=HY ⟨e.1,e.2,e2⟩
 obtain⟨N,rfl⟩:∃N:Nat,n=N:=⟨n.toNat,by omega⟩
 obtain⟨k,rfl⟩:∃k':Nat,k=k':=⟨k.toNat,by omega⟩
 refine aaa (by omega) (by omega) _ fun b1 m s st h' A B C l hc V O f=>⟨some ⟨b1,0,none⟩,rfl,.nil,HY b1 m s st h' A B C l hc V O f⟩
theorem BM{N k A B C:Nat}{l:List Nat}(hN:1<=N/\N<=250)(hk:k<4)(hc:eQ k N=some (A,B,C,l)):∃h:N-1<l.length,pA N k=([((l[N-1]:Nat):Int)/121-60,((l[N-1]:Nat):Int)%121-60],true):=by
 have ll:=ie hc
 refine⟨by omega,?_⟩
 unfold pA
 rw[if_pos (by omega),Int.toNat_natCast,Int.toNat_natCast,hc]
 have:l.getLastD 0=l[N-1]'(by omega):=by
  have e1:l.getLast?=some (l[N-1]'(by omega)):=by
   rw[List.getLast?_eq_getElem?,show l.length-1=N-1 by omega]
   exact List.getElem?_eq_getElem _
  rw[List.getLastD_eq_getLast?,e1]
  rfl
 simp only[this]
theorem Ed{h:Heap}(n k:Int)(K:Value->Heap->Prop)(HK:∀t h',bL h' (fun q=>h.size<=q) t (pA n k).1->Fr No h h'->K (.tuple #[t.v,VB (pA n k).2]) h'):aE Tryz.prog 170 #[VI n,VI k] h K:=by
 have no:¬(1<=n/\n<=250/\0<=k/\k<=3)->∀h',Fr No h h'->K (.tuple #[aC.v,VB false]) h':=fun hn h' f=>by
  unfold pA at HK
  rw[if_neg hn]at HK
  exact HK aC h' (Ow.nil _ _ _ _) f
 refine af8 n k h K (TJ n k _ (fun hn=>⟨none,false,rfl,.nil,fun _=>no (fun h=>hn (by omega)) h (Fr.refl _ _),fun e=>by cases e⟩) fun hy b1 m s st h1 A B C l hc V O f1=>⟨some ⟨b1,0,none⟩,true,rfl,.nil,fun e=>(by cases e),fun _=>⟨fun e=> ?_,fun e=> ?_⟩⟩)
 ·simp only[decide_eq_true_eq]at e
  exact no (by omega) h1 f1
 ·simp only[decide_eq_false_iff_not]at e
  obtain⟨N,rfl⟩:∃N:Nat,n=N:=⟨n.toNat,by omega⟩
  obtain⟨k,rfl⟩:∃k':Nat,k=k':=⟨k.toNat,by omega⟩
  rw[Int.toNat_natCast,Int.toNat_natCast]at hc
  obtain⟨hl,eg⟩:=BM (by omega) (by omega) hc
  have sl:s.n=l.length:=by have:=O.rd.len;rw[nI]at this;omega
  have ll:=ie hc
  rw[aG _ (by omega) (by omega)]
  have ei:(((N:Int)-1)).toNat=N-1:=by omega
  rw[eg]at HK
  obtain⟨q1,q2⟩:=zJ hl
  have z1:=f1.size
  refine⟨b1,m,s,st,rfl,V,O.bC (by omega) (by omega),((l[N-1]:Nat):Int)/121-60,((l[N-1]:Nat):Int)%121-60,?_,fun b2 h3 dK f3 cF=> ?_⟩
  ·obtain⟨g,o,j5,ha,_,_,QX,_⟩:=O.Cb (i:=(N:Int)-1) (by omega) (by omega)
   have cl:=nI l
   have cell:∀j v,(iQ l)[j]?=some v->aR h1 (⟨g,o+j,none⟩:Addr)=some v:=fun j v hv=>by
    obtain⟨hj,e1⟩:=List.getElem?_eq_some_iff.1 hv
    obtain⟨a,h1,_,h2⟩:=O.rd.cell j hj
    rw[ha]at h1
    have h1:=Option.some.inj h1
    subst h1
    rw[gy]at h2
    rw[h2,e1]
   intro j hj
   rw[QX,ei,gy,Nat.add_assoc]
   rcases(by simp at hj;omega:j=0\/j=1)with rfl|rfl
   ·exact cell _ _ q1
   ·exact cell _ _ q2
  ·refine aP fu (fun q=>h3.size<=q) (fun _ h=>h) 2 (by omega) [VI (((l[N-1]:Nat):Int)/121-60),VI (((l[N-1]:Nat):Int)%121-60)] rfl rfl fun t h4 n4 c4 o4 f4 m4 _=>⟨t,rfl,cF.aB f4,?_⟩
   have z3:=f3.aF.size
   exact HK t h4 (by show Ow _ _ _ _ _ _;exact o4.mono fun q _ hq=>by omega) ((f1.aA f3.aF).aA f4)
theorem Jb{x y:Int}(hx:fM x)(hy:fM y){h:Heap}(K:Value->Heap->Prop)(HK:K (VI (bI x y:Nat)) h):aE Tryz.prog 241 #[VI x,VI y] h K:=by
 refine ahI x y h K ?_
 unfold abu pk
 unfold fM at hx hy
 rw[aG (x+60) (by omega) (by omega),aG ((x+60)*121) (by omega) (by omega),aG ((x+60)*121+y) (by omega) (by omega),aG _ (by omega) (by omega)]
 have e:((bI x y:Nat):Int)=(x+60)*121+y+60:=by unfold bI;omega
 rw[<-e]
 exact HK
theorem PN{x y:Int}{r:Nat}(hx:fM x)(hy:fM y)(hr:r<4){h:Heap}(K:Value->Heap->Prop)(HK:K (.tuple #[VI (mvX x r),VI (mvY y r)]) h):aE Tryz.prog 242 #[VI x,VI y,VI r] h K:=by
 unfold fM at hx hy
 refine ahK x y r h K ⟨fun e=> ?_,fun e=>⟨fun e2=> ?_,fun e2=>⟨fun e3=> ?_,fun e3=> ?_⟩⟩⟩
 ·simp only[decide_eq_true_eq]at e
  rw[aG _ (by omega) (by omega)]
  rw[e]at HK
  exact HK
 ·simp only[decide_eq_true_eq]at e2
  rw[aG _ (by omega) (by omega)]
  rw[e2]at HK
  exact HK
 ·simp only[decide_eq_true_eq]at e3
  rw[aG _ (by omega) (by omega)]
  rw[e3]at HK
  exact HK
 ·simp only[decide_eq_false_iff_not]at e e2 e3
  rw[aG _ (by omega) (by omega)]
  have e5:(r:Int)=3:=by omega
  rw[e5]at HK
  exact HK
def nS(l:List Nat):List (List Int):=l.map fun i:Nat=>[(i:Int)/121-60,(i:Int)%121-60]
theorem Jc(l:List Nat)(i:Nat):nS (l++[i])=nS l++[[(i:Int)/121-60,(i:Int)%121-60]]:=by simp[nS]
def GrL(gl:List Bool)(A:Nat):Prop:=gl.length=14641/\∀j,j<14641->gl.getD j false=A.testBit j
def RoL(rl:List Int)(B C:Nat):Prop:=rl.length=14641/\∀j,j<14641->rl.getD j 0=(kp B C j:Int)
theorem uV{α:Type}{l:List α}{i j:Nat}{v d:α}(hi:i<l.length):(l.set i v).getD j d=if j=i then v else l.getD j d:=by
 rw[List.getD_eq_getElem?_getD,List.getD_eq_getElem?_getD,List.getElem?_set]
 by_cases h:i=j
 ·subst h;rw[if_pos rfl,if_pos hi,if_pos rfl,Option.getD_some]
 ·rw[if_neg h,if_neg (fun e=>h e.symm)]
theorem GrL.grow{gl:List Bool}{A i:Nat}(G:GrL gl A)(hi:i<14641)(hA:A.testBit i=false):GrL (gl.set i true) (A^^^2^i):=⟨by rw[List.length_set];exact G.1,fun j hj=>by
 rw[uV (by rw[G.1];exact hi),kX]
 by_cases h:j=i
 ·subst h;rw[if_pos rfl,if_pos rfl,hA];rfl
 ·rw[if_neg h,if_neg h];exact G.2 j hj⟩
theorem RoL.turn{rl:List Int}{B C i:Nat}(R:RoL rl B C)(hi:i<14641):RoL (rl.set i (((kp B C i+1)%4:Nat):Int)) (B^^^2^i) (bif B.testBit i then C^^^2^i else C):=⟨by rw[List.length_set];exact R.1,fun j hj=>by
 rw[uV (by rw[R.1];exact hi),uT]
 by_cases h:j=i
 ·rw[if_pos h,if_pos h]
 ·rw[if_neg h,if_neg h];exact R.2 j hj⟩
theorem Gx{h:Heap}{n:Int}{m:Nat}(e:n=m)(hm:m<=100000){K:Value->Heap->Prop}(HK:∀x h',Ow h' (fun k=>h.size<=k) tB 1 x ((List.replicate m false).map VB)->Fr No h h'->K x.v h'):iU Tryz.prog (Instr.makeSlice tBs (VI n) (VI n)) h K:=by
 subst e
 refine eA rBs (fun k=>_<=k) (fun _ h=>h) .i64 .i64 m m (Nat.le_refl _) (by omega) fun t h2 n2 c2 o2 f2 m2 _=>HK t h2 ?_ f2
 have e:(List.replicate m [VB false]).flatten=(List.replicate m false).map VB:=by simp[List.flatten_replicate_singleton]
 rw[e]at o2;exact o2
set_option maxHeartbeats 8000000 in
theorem aab{N k:Nat}(hN:N<=250)(hk:k<4){h:Heap}(K:Value->Heap->Prop)
 (HK:∀b1 x1 x2 x3 st h' A B C l,eQ k N=some (A,B,C,l)->Vars h' [(b1,[Sl.v x1,Sl.v x2,Sl.v x3,VI st])]->gQ h' (fun q=>h.size<=q) x3 (nS l)->Fr No h h'->K (VP b1 0) h'):aE Tryz.prog 193 #[VI N,VI k] h K:=by
 refine v193 N k h K ⟨fun b1 x1 x2 x3 x4 h'=>x3=aC/\Ow h' (fun q=>h.size<=q/\q<b1) tB 1 x1 ((List.replicate 14641 false).map VB)/\bL h' (fun q=>h.size<=q/\q<b1) x2 (List.replicate 14641 0)/\Dj x1 x2/\Fr No h h'/\h.size<=b1,?_,?_⟩
 ·refine⟨Gx (m:=14641) rfl (by omega) fun g h1 o1 f1=>⟨g,rfl,.nil,iO (m:=14641) rfl (by omega) fun r h2 o2 f2=>⟨r,rfl,.nil,fun b1 h3 hb f3 hL=> ?_⟩⟩,iO (m:=14641) rfl (by omega) fun r h1 o1 f1=>⟨r,rfl,.nil,Gx (m:=14641) rfl (by omega) fun g h2 o2 f2=>⟨g,rfl,.nil,fun b1 h3 hb f3 hL=> ?_⟩⟩⟩
  ·have f3:=f3.aF
   have z1:=f1.size
   have z2:=f2.size
   refine⟨rfl,(Ow.no (Ow.no o1 f2) f3).mono fun q hq _=>⟨(o1.aH hq).1,by have:=(o1.aH hq).2;omega⟩,(Ow.no o2 f3).mono fun q hq _=>⟨by have:=(o2.aH hq).1;omega,by have:=(o2.aH hq).2;omega⟩,fun q hq gK=>by have:=(o1.aH hq).2;have:=(o2.aH gK).1;omega,(f1.aA f2).aA f3,by omega⟩
  ·have f3:=f3.aF
   have z1:=f1.size
   have z2:=f2.size
   refine⟨rfl,(Ow.no o2 f3).mono fun q hq _=>⟨by have:=(o2.aH hq).1;omega,by have:=(o2.aH hq).2;omega⟩,(Ow.no (Ow.no o1 f2) f3).mono fun q hq _=>⟨(o1.aH hq).1,by have:=(o1.aH hq).2;omega⟩,fun q hq gK=>by have:=(o2.aH hq).1;have:=(o1.aH gK).2;omega,(f1.aA f2).aA f3,by omega⟩
 rintro b1 g r _ x4 h7 ⟨rfl,G7,R7,dj,F7,hb⟩ jA
 have rn:r.n=14641:=by have:=R7.rd.len;rw[List.length_map,List.length_replicate]at this;omega
 have gb:¬g.own b1:=fun hk=>by have:=(G7.aH hk).1.2;omega
 have rb:¬r.own b1:=fun hk=>by have:=(R7.aH hk).1.2;omega
 have lb7:=jA.head.lt
 refine⟨fun m i h'=>∃rl:List Int,0<=i/\i+m=14641/\rl.length=14641/\(∀j,j<i.toNat->rl.getD j 0=(k:Int))/\bL h' (fun q=>h.size<=q/\q<b1) r rl/\Ow h' (fun q=>h.size<=q/\q<b1) tB 1 g ((List.replicate 14641 false).map VB)/\Fr (fun q=>h.size<=q) h h',⟨14641,_,by omega,by omega,List.length_replicate,fun j hj=>absurd hj (by simp),R7,G7,F7.aB⟩,?_⟩
 rintro m i h8 ⟨rl,i0,i1,i2,i3,R8,G8,F8⟩ fP
 refine⟨fun e=> ?_,fun e=> ?_⟩
 ·simp only[decide_eq_true_eq]at e
  obtain⟨w1,w2,w3⟩:=R8.eY i0 e (VI k)
  refine⟨R8.bC i0 e,w1,gJ fP w3 rb,fun h9 e9 fQ=>⟨m-1,by omega,rl.set i.toNat k,?_,?_,by rw[List.length_set];exact i2,fun j hj=> ?_,?_,?_,?_⟩⟩
  ·rw[aG _ (by omega) (by omega)];omega
  ·rw[aG _ (by omega) (by omega)];omega
  ·rw[aG _ (by omega) (by omega)]at hj
   rw[uV (by omega)]
   split
   ·rfl
   ·exact i3 j (by omega)
  ·subst e9;show Ow _ _ _ _ _ _;rw[List.map_set];exact w2
  ·subst e9;exact Ow.fr G8 w3 fun q hq gK=>dj q hq gK
  ·subst e9;exact F8.trans (w3.mono fun q _ hq=>(R8.aH hq).1.1)
 simp only[decide_eq_false_iff_not]at e
 have hR0:RoL rl (mM (k.testBit 0)) (mM (k.testBit 1)):=⟨i2,fun j hj=>by rw[i3 j (by omega),Gr hk hj]⟩
 have hG0:GrL (List.replicate 14641 false) 0:=⟨List.length_replicate,fun j hj=>by rw[Nat.zero_testBit,List.getD_eq_getElem?_getD,List.getElem?_replicate];split<;>rfl⟩
 refine⟨fun n n0 y5 y6 y7 y8 h'=>∃(j A B C:Nat)(l:List Nat)(gl:List Bool)(rl:List Int),n0=(N:Int)-j/\n+j=N/\eQ k j=some (A,B,C,l)/\y5=g/\y6=r/\GrL gl A/\RoL rl B C/\bL h' (fun q=>h.size<=q/\q<b1) r rl/\Ow h' (fun q=>h.size<=q/\q<b1) tB 1 g (gl.map VB)/\gQ h' (fun q=>b1+1<=q) y7 (nS l)/\Fr (fun q=>h.size<=q) h h',
  ⟨N,0,0,mM (k.testBit 0),mM (k.testBit 1),[],_,_,(Int.sub_zero _).symm,Nat.add_zero _,rfl,rfl,rfl,hG0,hR0,R8,G8,dR.nil _ _ _ _,F8⟩,?_⟩
 rintro n _ y5 y6 y7 y8 dV ⟨j,A,B,C,l,gl,rl,rfl,hn,hc,rfl,rfl,hG,hR,R10,GV,X10,nY⟩ dL
 have ll:=ie hc
 refine⟨fun e2=> ?_,fun e2=> ?_⟩
 ·simp only[decide_eq_true_eq]at e2
  obtain⟨A',B',C',l',Qd⟩:=lD (k:=k) (n:=j+1) hk (by omega)
  obtain⟨i9,hw,rfl,rfl⟩:=lE hc Qd
  refine⟨fun m x y z9 Ad Ru z12 h'=>∃(B2 C2:Nat)(rl:List Int),nQ m A B2 C2 (bI x y)=some (i9,B',C')/\fM x/\fM y/\z9=y5/\Ad=y6/\Ru=y7/\RoL rl B2 C2/\bL h' (fun q=>h.size<=q/\q<b1) y6 rl/\Ow h' (fun q=>h.size<=q/\q<b1) tB 1 y5 (gl.map VB)/\gQ h' (fun q=>b1+1<=q) y7 (nS l)/\Fr (fun q=>h.size<=q) h h',
   ⟨1000,B,C,rl,hw,by decide,by decide,rfl,rfl,rfl,hR,R10,GV,X10,nY⟩,?_⟩
  rintro m x y z9 Ad Ru z12 ic ⟨B2,C2,rl2,hw2,hx,hy,rfl,rfl,rfl,hR2,RZ,TK,X11,F11⟩ iA
  have hi:=KE hx hy
  have apy:=F11.size
  have apz:=iA.head.lt
  have gR:=TK.rd
  have gi:((bI x y:Nat):Int)<((gl.length:Nat):Int):=by rw[hG.1];omega
  have cg:=aiu gR (i:=(bI x y:Nat)) (by omega) gi
  have egl:gl[((bI x y:Nat):Int).toNat]'(by rw[hG.1];omega)=A.testBit (bI x y):=by
   have:=hG.2 _ hi
   rw[List.getD_eq_getElem?_getD,List.getElem?_eq_getElem (by rw[hG.1];exact hi),Option.getD_some]at this
   exact this
  rw[egl]at cg
  have ac5:dN z9 ((bI x y:Nat):Int):=cK.bC gR (by omega) (by rw[List.length_map];exact gi)
  refine Jb hx hy _ ⟨_,rfl,iA,ac5,_,cg,fun e3=> ?_,fun e3=> ?_⟩
  ·obtain⟨Vj,m',rfl,hw3⟩:=rD hw2 e3
   have tt:=KD B2 C2 (bI x y)
   have rR:aQ Ad.own ic Ad rl2:=RZ.rd
   have ri:((bI x y:Nat):Int)<(rl2.length:Int):=by rw[hR2.1];omega
   have cr:=rR.get (i:=(bI x y:Nat)) (by omega) ri
   have erl:rl2[((bI x y:Nat):Int).toNat]'(by rw[hR2.1];omega)=(kp B2 C2 (bI x y):Int):=by
    have:=hR2.2 _ hi
    rw[List.getD_eq_getElem?_getD,List.getElem?_eq_getElem (by rw[hR2.1];exact hi),Option.getD_some]at this
    exact this
   rw[erl]at cr
   have et:Int.tmod (aL ((kp B2 C2 (bI x y):Int)+1)) 4=(((kp B2 C2 (bI x y)+1)%4:Nat):Int):=by
    rw[aG _ (by omega) (by omega),Int.tmod_eq_emod_of_nonneg (by omega)]
    omega
   have rnb:dN Ad ((bI x y:Nat):Int):=rR.bC (by omega) ri
   have rn2:Ad.n=rl2.length:=by have:=rR.len;exact this
   obtain⟨w1,w2,w3⟩:=RZ.eY (i:=(bI x y:Nat)) (by omega) (by omega) (VI (((kp B2 C2 (bI x y)+1)%4:Nat):Int))
   refine Jb hx hy _ ⟨_,rfl,iA,rnb,_,cr,rnb,?_⟩
   rw[et]
   refine⟨w1,gJ iA w3 rb,fun LQ e14 LR=> ?_⟩
   subst e14
   rw[<-List.map_set,Int.toNat_natCast]at w2
   have UC:bL _ (fun q=>h.size<=q/\q<b1) Ad (rl2.set (bI x y) (((kp B2 C2 (bI x y)+1)%4:Nat):Int)):=w2
   have ac6:aQ Ad.own _ Ad _:=UC.rd
   have ac7:=ac6.get (i:=(bI x y:Nat)) (by omega) (by rw[List.length_set];exact ri)
   simp only[Int.toNat_natCast,List.getElem_set_self]at ac7
   obtain⟨g1,g2,g3⟩:=Gs (r:=(kp B2 C2 (bI x y)+1)%4) hx hy rfl Vj (by omega)
   refine⟨ac6.bC (by omega) (by rw[List.length_set];exact ri),_,ac7,PN hx hy (by omega) _ ⟨_,_,rfl,LR,fun WB f16 IY=> ?_⟩⟩
   have TL:∀{q:Nat},In [b1] q->q=b1:=fun hq=>by simpa[In]using hq
   refine⟨m',by omega,_,_,_,by rw[g3];exact hw3,g1,g2,rfl,rfl,rfl,hR2.turn hi,?_,?_,?_,?_⟩
   ·exact Ow.fr UC f16 fun q hq gK=>rb (TL gK▸hq)
   ·exact Ow.fr (Ow.fr TK w3 fun q hq gK=>dj q hq gK) f16 fun q hq gK=>gb (TL gK▸hq)
   ·exact(X11.fr w3 fun q _ hq gK=>by have:=(RZ.aH gK).1.2;omega).fr f16 fun q _ hq gK=>by have:=TL gK;omega
   ·exact(F11.trans (w3.mono fun q _ hq=>(RZ.aH hq).1.1)).trans (f16.mono fun q _ hq=>by have:=TL hq;omega)
  ·have hE:=uU hw2 e3
   simp only[Prod.mk.injEq]at hE
   obtain⟨rfl,rfl,rfl⟩:=hE
   obtain⟨w1,w2,w3⟩:=TK.eY (i:=(bI x y:Nat)) (by omega) (by have:=aiv gR;omega) (VB true)
   refine Jb hx hy _ ⟨_,rfl,iA,ac5,w1,gJ iA w3 gb,fun h18 e18 ac8=> ?_⟩
   subst e18
   rw[<-List.map_set,Int.toNat_natCast]at w2
   have X18:=X11.fr w3 fun q _ hq gK=>by have:=(TK.aH gK).1.2;omega
   have z18:=w3.size
   refine aP fu (fun q=>_<=q) (fun _ h=>h) 2 (by omega) [VI x,VI y] rfl rfl fun s LS n19 c19 o19 f19 m19 _=>⟨s,rfl,ac8.aB f19,?_⟩
   have z19:=f19.size
   have X19:gQ LS (Iv (b1+1) (Mx.cL ic (z9.at ((bI x y:Nat):Int) 1) (VB true)).size) Ru (nS l):=(X18.mono fun q hq gK=>⟨gK,hq⟩).no f19
   refine jL (ys:=[x,y]) X19 (by show Ow _ _ _ _ _ _;exact o19) (by omega) z19 (ac8.aB f19) (fun p hp=>by simp only[List.mem_singleton]at hp;subst hp;exact Nat.lt_succ_self _) (by simp[nS];omega) _ fun t h21 X21 f21 apI=> ?_
   have z21:=f21.size
   intro GS f22 apJ
   have TL:∀{q:Nat},In [b1] q->q=b1:=fun hq=>by simpa[In]using hq
   refine⟨n-1,by omega,j+1,_,_,_,_,_,_,?_,by omega,Qd,rfl,rfl,hG.grow hi e3,hR2,?_,?_,?_,?_⟩
   ·rw[aG _ (by omega) (by omega)];omega
   ·exact Ow.fr (Ow.fr (Ow.no (Ow.fr RZ w3 fun q hq gK=>dj q gK hq) f19) f21 fun q hq gK=>by have:=(RZ.aH hq).1.2;omega) f22 fun q hq gK=>rb (TL gK▸hq)
   ·exact Ow.fr (Ow.fr (Ow.no w2 f19) f21 fun q hq gK=>by have:=(TK.aH hq).1.2;omega) f22 fun q hq gK=>gb (TL gK▸hq)
   ·rw[Jc,(sZ hx hy).1,(sZ hx hy).2]
    exact X21.fr f22 fun q _ hq gK=>by have:=TL gK;omega
   ·exact(((F11.trans (w3.mono fun q _ hq=>(TK.aH hq).1.1)).trans f19.aB).trans (f21.mono fun q _ hq=>by omega)).trans (f22.mono fun q _ hq=>by have:=TL hq;omega)
 ·simp only[decide_eq_false_iff_not]at e2
  have:j=N:=by omega
  subst this
  exact HK b1 y5 y6 y7 y8 dV A B C l hc dL (X10.mono fun q _ hq=>by omega) (nY.mono fun q hq gK=>absurd gK (by omega))
theorem Mb{h:Heap}(n k:Int)(K:Value->Heap->Prop)(HK:K (VB (decide (0<=n/\n<=250/\0<=k/\k<=3))) h):aE Tryz.prog 192 #[VI n,VI k] h K:=by
 refine agJ n k h K (cY _ _ _ h _ ⟨_,rfl,.nil,fun e=>cY _ _ _ h _ ⟨_,rfl,.nil,?_⟩,fun e=> ?_⟩)
 ·have e:0<=n/\n<=250:=by simpa using e
  have:(decide (0<=k)&&decide (k<=3))=decide (0<=n/\n<=250/\0<=k/\k<=3):=by
   rw[<-Bool.decide_and]
   exact decide_eq_decide.2 ⟨fun h=>⟨e.1,e.2,h⟩,fun h=>h.2.2⟩
  rw[this]
  exact HK
 ·rw[decide_eq_false (fun h=>by simp at e;omega)]at HK
  exact HK
theorem ta{h:Heap}(n k:Int)(K:Value->Heap->Prop)(HK:∀t h',aQ (fun _=>True) h' t (pA n k).1->Fr No h h'->K (.tuple #[t.v,VB (pA n k).2]) h'):aE Tryz.prog 142 #[VI n,VI k] h K:=by
 have no:¬(1<=n/\n<=250/\0<=k/\k<=3)->∀h',Fr No h h'->K (.tuple #[aC.v,VB false]) h':=fun hn h' f=>by
  unfold pA at HK
  rw[if_neg hn]at HK
  exact HK aC h' (cK.nil _ _ _) f
 refine afE n k h K (Mb n k _ ⟨_,rfl,.nil,fun e=>no (by simp at e;omega) h (Fr.refl _ _),fun e=>⟨fun e2=> ?_,fun e2=> ?_⟩⟩)
 ·simp only[decide_eq_true_eq]at e2
  exact no (by omega) h (Fr.refl _ _)
 have e:0<=n/\n<=250/\0<=k/\k<=3:=by simpa using e
 simp only[decide_eq_false_iff_not]at e2
 obtain⟨N,rfl⟩:∃N:Nat,n=N:=⟨n.toNat,by omega⟩
 obtain⟨k,rfl⟩:∃k':Nat,k=k':=⟨k.toNat,by omega⟩
 refine aab (by omega) (by omega) _ fun b1 x1 x2 x3 st h' A B C l hc V X f=>⟨some ⟨b1,0,none⟩,rfl,.nil,b1,x1,x2,x3,st,rfl,V,?_⟩
 obtain⟨hl,eg⟩:=BM (by omega) (by omega) hc
 have ll:=ie hc
 have Rd:=X.rd
 have rl:(nS l).length=l.length:=by simp[nS]
 rw[aG _ (by omega) (by omega)]
 have ei:((N:Int)-1).toNat=N-1:=by omega
 obtain⟨si,c1,r1⟩:=Rd.get (i:=(N:Int)-1) (by omega) (by omega)
 have er:(nS l)[((N:Int)-1).toNat]'(by omega)=[((l[N-1]:Nat):Int)/121-60,((l[N-1]:Nat):Int)%121-60]:=by simp[nS,ei]
 rw[er]at r1
 rw[eg]at HK
 exact⟨Rd.bC (by omega) (by omega),si,c1,HK si h' (r1.mono fun _ _=>trivial) f⟩
def jP(w:List UInt8):Option Int:=match Lib.atoiAll w with
 | .ok n=>if 0<=n/\n<=999999/\Lib.itoa n=w then some n else none
 |_=>none
def mN(w:List UInt8):Option Nat:=if 1<=w.length/\w.length<=6/\¬(w.head?=some 48/\1<w.length)then Lib.decFrom 0 w else none
theorem kq(c:UInt8):∀(l:List UInt8)(a:Nat),Lib.decFrom a (l++[c])=(Lib.decFrom a l).bind fun n=>(Lib.digitVal c).map fun d=>n*10+d
 |[],a=>by
  show Lib.decFrom a [c]=_
  unfold Lib.decFrom
  cases Lib.digitVal c<;>rfl
 |b::l,a=>by
  rw[List.cons_append]
  unfold Lib.decFrom
  cases Lib.digitVal b with
  |none=>rfl
  |some d=>exact kq c l _
theorem Gy{d:Nat}(h:d<10):Lib.digitVal (UInt8.ofNat (48+d))=some d:=by
 have:∀d:Fin 10,Lib.digitVal (UInt8.ofNat (48+d.val))=some d.val:=by decide
 exact this ⟨d,h⟩
theorem BN{c:UInt8}{d:Nat}(h:Lib.digitVal c=some d):d<10/\c=UInt8.ofNat (48+d):=by
 unfold Lib.digitVal at h
 split at h
 ·rename_i hc
  have h:=Option.some.inj h
  refine⟨by omega,UInt8.toNat_inj.1 ?_⟩
  rw[UInt8.toNat_ofNat']
  omega
 ·cases h
theorem Gz:∀u:Nat,Lib.decFrom 0 (Lib.decDigits u)=some u:=by
 intro u
 induction u using Nat.strongRecOn with
 |_ u ih=>
  by_cases h:u<10
  ·rw[Lib.decDigits,dif_pos h]
   have:=kq (UInt8.ofNat (48+u)) [] 0
   rw[List.nil_append]at this
   rw[this,Gy h]
   simp[Lib.decFrom]
  ·rw[Lib.decDigits,dif_neg h,kq,ih (u/10) (by omega),Gy (by omega)]
   simp only[Option.bind_some,Option.map_some,Option.some.injEq]
   omega
theorem gF:∀(k u:Nat),u<10^(k+1)->1<=(Lib.decDigits u).length/\(Lib.decDigits u).length<=k+1
 |0,u,h=>by rw[Lib.decDigits,dif_pos (by simpa using h)];simp
 |k+1,u,h=>by
  by_cases hu:u<10
  ·rw[Lib.decDigits,dif_pos hu];simp
  ·have:=gF k (u/10) (by rw[Nat.pow_succ]at h;omega)
   rw[Lib.decDigits,dif_neg hu,List.length_append,List.length_singleton]
   omega
theorem GA:∀u:Nat,(Lib.decDigits u).head?=some 48->u=0:=by
 intro u
 induction u using Nat.strongRecOn with
 |_ u ih=>
  intro h
  by_cases hu:u<10
  ·rw[Lib.decDigits,dif_pos hu]at h
   have:∀d:Fin 10,UInt8.ofNat (48+d.val)=48->d.val=0:=by decide
   exact this ⟨u,hu⟩ (by simpa using h)
  ·rw[Lib.decDigits,dif_neg hu]at h
   have hl:=(gF (u/10) (u/10) (by have:=Nat.lt_pow_self (n:=u/10+1) (show 1<10 by omega);omega)).1
   have:(Lib.decDigits (u/10)).head?=some 48:=by
    cases hd:Lib.decDigits (u/10)with
    |nil=>rw[hd]at hl;simp at hl
    |cons x l=>rw[hd]at h;simpa using h
   have:=ih (u/10) (by omega) this
   omega
theorem GB:∀(k:Nat)(w:List UInt8)(n:Nat),w.length=k->1<=w.length->¬(w.head?=some 48/\1<w.length)->Lib.decFrom 0 w=some n->Lib.decDigits n=w:=by
 intro k
 induction k with
 |zero=>intro w n h1 h2;omega
 |succ k ih=>
  intro w n h1 h2 h3 h4
  have hw:w≠[]:=fun e=>by rw[e]at h2;simp at h2
  have e:=List.dropLast_concat_getLast hw
  have el:(w.dropLast).length=k:=by rw[List.length_dropLast];omega
  rw[<-e,kq]at h4
  cases hm:Lib.decFrom 0 w.dropLast with
  |none=>rw[hm]at h4;cases h4
  |some m=>
   rw[hm]at h4
   cases hc:Lib.digitVal (w.getLast hw)with
   |none=>rw[hc]at h4;cases h4
   |some d=>
    rw[hc]at h4
    have h4:m*10+d=n:=by simpa using h4
    obtain⟨hd,ed⟩:=BN hc
    by_cases hk:k=0
    ·have:w.dropLast=[]:=List.length_eq_zero_iff.1 (by omega)
     rw[this]at hm e
     have hm:0=m:=by simpa[Lib.decFrom]using hm
     rw[Lib.decDigits,dif_pos (by omega),<-e,ed]
     congr 3;omega
    ·have hh:¬(w.dropLast.head?=some 48):=fun hh=>by
      refine h3 ⟨?_,by omega⟩
      cases hd:w.dropLast with
      |nil=>rw[hd]at el;simp at el;omega
      |cons x l=>rw[<-e,hd];rw[hd]at hh;simpa using hh
     have:=ih w.dropLast m el (by omega) (fun h=>hh h.1) hm
     have m0:m≠0:=fun h0=>by
      rw[h0,Lib.decDigits,dif_pos (by omega)]at this
      exact hh (by rw[<-this];rfl)
     rw[Lib.decDigits,dif_neg (by omega),show n/10=m by omega,this,show n%10=d by omega,<-ed]
     exact e
theorem PO(w:List UInt8):jP w=(mN w).map fun n=>(n:Int):=by
 unfold jP
 cases hr:mN w with
 |some n=>
  unfold mN at hr
  split at hr
  ·rename_i hc
   have hd:=GB _ w n rfl hc.1 hc.2.2 hr
   have tt:=Lib.decFrom_lt w 0 n hr
   have hp:10^w.length<=10^6:=Nat.pow_le_pow_right (by decide) hc.2.1
   have ha:Lib.atoiAll w= .ok (n:Int):=by
    rw[Lib.atoiAll_short w (by omega)]
    cases w with
    |nil=>simp at hc
    |cons b r=>
     have hb:∃d,Lib.digitVal b=some d:=by
      unfold Lib.decFrom at hr
      cases hb:Lib.digitVal b with
      |none=>rw[hb]at hr;cases hr
      |some d=>exact⟨d,rfl⟩
     obtain⟨d,hb⟩:=hb
     obtain⟨d1,d2⟩:=BN hb
     have hx:(b==45)=false/\(b==43)=false:=by
      rw[d2]
      have:∀d:Fin 10,(UInt8.ofNat (48+d.val)==45)=false/\(UInt8.ofNat (48+d.val)==43)=false:=by decide
      exact this ⟨d,d1⟩
     unfold Lib.atoi Lib.decNat
     simp only[hx.1,hx.2,Bool.false_eq_true,if_false,List.isEmpty_cons,hr,Option.map_some,Lib.NumEnd.ofOption]
   rw[ha]
   (try simp only)
   rw[if_pos ⟨by omega,by have:(10:Nat)^6=1000000:=by decide
                          omega,by rw[Lib.itoa_nonneg,hd]⟩]
   rfl
  ·cases hr
 |none=>
  cases ha:Lib.atoiAll w with
  |ok n=>
   (try simp only)
   rw[if_neg]
   ·rfl
   ·rintro⟨h0,h1,h2⟩
    obtain⟨u,hu⟩:∃u:Nat,n=u:=⟨n.toNat,by omega⟩
    rw[hu,Lib.itoa_nonneg]at h2
    have hl:=gF 5 u (by have:(10:Nat)^(5+1)=1000000:=by decide
                        omega)
    unfold mN at hr
    rw[<-h2,if_pos ⟨hl.1,hl.2,fun h=>by
     have:=GA u h.1
     rw[this,Lib.decDigits,dif_pos (by omega)]at h
     simp at h⟩,Gz]at hr
    cases hr
  |_=>rfl
def zL(l:List Int):List UInt8:=Lib.join (l.map Lib.itoa) [44]
def nT(s:St):List UInt8:=Lib.itoa s.2++58::zL s.1
abbrev Dk:=List (List Int)×St
abbrev p7:=Option (Dk×List UInt8)
def BO(d:Dk)(r:St×Bool):p7:=if r.2=true then some ((d.1,r.1),nT r.1)else none
def PP(d:Dk)(r:List Int×Bool):p7:=if r.2=true then some (d,zL r.1)else none
def UM(d:Dk)(r:Int×Bool):p7:=if r.2=true then some (d,Lib.itoa r.1)else none
def stC(d:Dk):p7:=BO d (dG d.1 d.2.1 d.2.2 1)
def prC(d:Dk):p7:=PP d ([(dU d.1 d.2.1 d.2.2).1,(dU d.1 d.2.1 d.2.2).2.1],(dU d.1 d.2.1 d.2.2).2.2)
noncomputable def cyC(d:Dk):p7:=PP d (rC d.1 d.2.1 d.2.2)
def TM(d:Dk)(p:Int):p7:=BO d ((d.2.1,p),aM d.1&&iz 0 ((d.1.length:Int)-1) p)
def rnC(d:Dk)(n:Int):p7:=BO d (dG d.1 d.2.1 d.2.2 n)
def psC(d:Dk)(n:Int):p7:=PP d (iJ d.1 d.2.1 d.2.2 n)
def vsC(d:Dk)(n:Int):p7:=PP d (nW d.1 d.2.1 d.2.2 n)
def htC(d:Dk)(n:Int):p7:=UM d (nq d.1 d.2.1 d.2.2 n)
def tsC(d:Dk)(n:Int):p7:=UM d (ry d.1 n)
def flC(d:Dk)(n:Int):p7:=PP d (py d.1 n)
def UN(d:Dk)(p q:Int):p7:=if(gS d.1 p q).2=true then some (((gS d.1 p q).1,d.2),tY (gS d.1 p q).1)else none
def PQ(d:Dk)(p k:Int):p7:=BO d ((d.2.1.set p.toNat k,d.2.2),aM d.1&&iz 0 ((d.1.length:Int)-1) p&&iz 0 (((d.1.getD p.toNat []).length:Int)-1) k)
def chC(d:Dk)(p q:Int):p7:=if(rK d.1 d.2.2 p q).2=true then some (d,Lib.itoa (rK d.1 d.2.2 p q).1.1++47::Lib.itoa (rK d.1 d.2.2 p q).1.2)else none
def gwC(d:Dk)(p q:Int):p7:=PP d (pA p q)
def esC(d:Dk)(p q r s:Int):p7:=UM d (zG p q r s)
def gpC(w:List UInt8):Option p7:=match oX w with
 |some g=>some (some ((g,(List.replicate g.length 0,0)),tY g))
 |none=>none
noncomputable def iR(d:Dk)(w:List UInt8):Option p7:=
 if w=[115,116,101,112]then some (stC d)else if w=[115,104,111,119]then some (some (d,tY d.1))else if w=[119,97,108,107]then some (some (d,nT d.2))
 else if w=[112,101,114,105,111,100]then some (prC d)else if w=[99,121,99,108,101]then some (cyC d)else none
def gP(d:Dk)(w:List UInt8)(n:Int):Option p7:=
 if w=[97,116]then some (TM d n)else if w=[114,117,110]then some (rnC d n)else if w=[112,97,115,115]then some (psC d n)else if w=[118,105,115,105,116,115]then some (vsC d n)
 else if w=[104,105,116]then some (htC d n)else if w=[116,114,101,101,115]then some (tsC d n)else if w=[102,117,108,108]then some (flC d n)else none
def uW(d:Dk)(w:List UInt8)(a b:Int):Option p7:=
 if w=[97,100,100]then some (UN d a b)else if w=[116,117,114,110]then some (PQ d a b)else if w=[99,104,97,110,99,101]then some (chC d a b)else if w=[103,114,111,119]then some (gwC d a b)else none
def Mn:List UInt8:=[103,114,97,112,104]
def zK:List UInt8:=[101,115,99,97,112,101,115]
noncomputable def bT(d:Dk)(w:List UInt8)(ns:List Int):Option p7:=match ns with
 |[]=>iR d w
 |[a]=>gP d w a
 |[a,b]=>uW d w a b
 |[a,b,c,e]=>if w=zK then some (esC d a b c e)else none
 |_=>none
noncomputable def gX(d:Dk)(ws:List (List UInt8)):Option p7:=
 if ws.length=2/\ws.headD []=Mn then gpC (ws.getD 1 [])else match gH jP ws.tail with
 |none=>none
 |some ns=>bT d (ws.headD []) ns
def aae(d:Dk)(a:Option p7):Dk×List UInt8:=match a with
 |none=>(d,[119,104,97,116])
 |some none=>(d,[110,111])
 |some (some r)=>r
noncomputable def ga(d:Dk)(s:List UInt8):Dk×List UInt8:=aae d (gX d (gu 32 s))
def nZ(d:Dk):Prop:=eX d.1 d.2.1 d.2.2=true
noncomputable def gL:Dk->List (List UInt8)->Dk×List (List UInt8)
 |d,[]=>(d,[])
 |d,s::ss=>((gL (ga d s).1 ss).1,(ga d s).2::(gL (ga d s).1 ss).2)
def j3:Dk:=([[1,2],[0,2],[0]],([0,0,0],0))
noncomputable def dE(s:List UInt8):Option (Dk×List (List UInt8)):=if s.length<=3000/\(gu 10 s).getLast?=some []/\(gu 10 s).length<=51 then some (gL j3 (gu 10 s).dropLast)else none
theorem pB{n:Int}(h0: -9223372036854775808<=n)(h1:n<=9223372036854775807):(Lib.itoa n).length<=21:=Lib.itoa_length_le n h0 h1
theorem Ee{rs:List Int}(B:∀x,x∈rs-> -9223372036854775808<=x/\x<=9223372036854775807):(zL rs).length<=41*rs.length:=by
 have:=ra 44 (rs.map Lib.itoa) fun y hy=>by
  obtain⟨x,hx,rfl⟩:=List.mem_map.1 hy
  have:=pB (B x hx).1 (B x hx).2
  omega
 rw[List.length_map]at this
 exact this
theorem ac9{d:Int}(h0:0<=d)(h1:d<10):IntKind.u8.wrap (48+d)=48+d:=by
 show(48+d)%256=48+d
 omega
theorem Ef{d:Nat}(h:d<10):strOfNums [48+(d:Int)]=⟨[UInt8.ofNat (48+d)].toArray⟩:=by
 apply ByteArray.ext
 apply Array.toList_inj.1
 rw[strOfNums_data]
 simp only[List.map_cons,List.map_nil,List.cons.injEq,and_true]
 have:(48+(d:Int)).toNat=48+d:=by omega
 rw[this]
theorem ju(n:Nat):n<=1000000000000000000->∀{h:Heap}(K:Value->Heap->Prop),(∀h',Fr No h h'->K (VS ⟨(Lib.decDigits n).toArray⟩) h')->aE Tryz.prog 73 #[VI n] h K:=by
 induction n using Nat.strongRecOn with
 |_ n ih=>
  intro hn h K HK
  by_cases hd:n<10
  ·exact J9 (by omega) (by omega) K (by rw[Int.toNat_natCast];exact HK)
  have akt:Lib.decDigits n=Lib.decDigits (n/10)++[UInt8.ofNat (48+n%10)]:=by rw[Lib.decDigits,dif_neg hd]
  have hlen:(Lib.decDigits (n/10)).length<=19:=(gF 18 (n/10) (by omega)).2
  rw[akt]at HK
  have et:Int.tmod (n:Int) 10=((n%10:Nat):Int):=by rw[Int.tmod_eq_emod_of_nonneg (by omega)];omega
  have ed:aL (Int.tdiv (n:Int) 10)=((n/10:Nat):Int):=by rw[Int.tdiv_eq_ediv_of_nonneg (by omega),aG _ (by omega) (by omega)];omega
  have ew:aL (48+Int.tmod (n:Int) 10)=48+((n%10:Nat):Int):=by rw[et,aG _ (by omega) (by omega)]
  have ap:(⟨(Lib.decDigits (n/10)).toArray⟩:ByteArray)++⟨[UInt8.ofNat (48+n%10)].toArray⟩=⟨(Lib.decDigits (n/10)++[UInt8.ofNat (48+n%10)]).toArray⟩:=eO _ _
  have conv:∀{X:Heap}{K:Value->Prop},K (.int .u8 (48+((n%10:Nat):Int)))->zU Tryz.prog (convert 3 5 (VI (aL (48+Int.tmod (n:Int) 10)))) X K:=fun HK=>by
   rw[ew]
   refine kK (show Tryz.prog.underlying _=some (.int .i64)from by kernel_rfl) (show Tryz.prog.underlying _=some (.int .u8)from by kernel_rfl) (48+((n%10:Nat):Int)) ?_
   rw[ac9 (by omega) (by omega)]
   exact HK
  refine v73 n h K ⟨fun e=>by simp only[decide_eq_true_eq]at e;omega,fun e=>conv ⟨_,rfl,?_,?_⟩⟩
  ·rw[ed]
   refine ih (n/10) (by omega) (by omega) _ fun h2 f2=>⟨_,rfl,.nil,?_,?_⟩
   ·obtain⟨v,hv,e⟩:=(conv (X:=h2) (K:=fun v=>v= .int .u8 (48+((n%10:Nat):Int))) rfl).out
    subst e
    exact hv
   refine aP Wa (fun k=>h2.size<=k) (fun _ h=>h) 1 (by omega) [.int .u8 (48+((n%10:Nat):Int))] rfl rfl fun w h3 n3 c3 o3 f3 m3 _=>⟨w,rfl,.nil,?_⟩
   refine sH (bs:=[UInt8.ofNat (48+n%10)]) o3.eW (Ef (by omega)) ⟨_,rfl,?_,?_⟩
   ·rw[bZ,bZ];simp only[List.length_singleton];omega
   ·rw[ap];exact HK h3 (f2.aA f3)
  ·refine aP Wa (fun k=>h.size<=k) (fun _ h=>h) 1 (by omega) [.int .u8 (48+((n%10:Nat):Int))] rfl rfl fun w h4 n4 c4 o4 f4 m4 _=>⟨w,rfl,.nil,?_⟩
   refine sH (bs:=[UInt8.ofNat (48+n%10)]) o4.eW (Ef (by omega)) ⟨_,rfl,?_⟩
   rw[ed]
   refine ih (n/10) (by omega) (by omega) _ fun h5 f5=>⟨_,rfl,.nil,?_,?_,?_⟩
   ·obtain⟨v,hv,e⟩:=(sH (h:=h5) (bs:=[UInt8.ofNat (48+n%10)]) (cK.no o4.eW f5) (Ef (d:=n%10) (by omega)) (K:=fun v=>v=VS ⟨[UInt8.ofNat (48+n%10)].toArray⟩) rfl).out
    subst e
    exact hv
   ·rw[bZ,bZ];simp only[List.length_singleton];omega
   ·rw[ap];exact HK h5 (f4.aA f5)
theorem TN{n:Int}(h0: -1000000000000000000<=n)(h1:n<=1000000000000000000){h:Heap}(K:Value->Heap->Prop)(HK:∀h',Fr No h h'->K (VS ⟨(Lib.itoa n).toArray⟩) h'):aE Tryz.prog 225 #[VI n] h K:=by
 refine ahm n h K ⟨fun e=> ?_,fun e=> ?_⟩
 ·simp only[decide_eq_true_eq]at e
  obtain⟨u,hu⟩:∃u:Nat,n= -(u:Int):=⟨(-n).toNat,by omega⟩
  rw[aG _ (by omega) (by omega),show(0:Int)-n=((u:Nat):Int) by omega]
  refine ju u (by omega) _ fun h2 f2=>⟨_,rfl,.nil,?_,?_⟩
  ·have:=(gF 18 u (by omega)).2
   rw[show(⟨#[45]⟩:ByteArray)=⟨[45].toArray⟩from rfl,bZ,bZ];simp only[List.length_singleton];omega
  ·have:=HK h2 f2
   rw[hu,Lib.itoa_neg u (by omega)]at this
   rw[show(⟨#[45]⟩:ByteArray)=⟨[45].toArray⟩from rfl,eO]
   exact this
 ·simp only[decide_eq_false_iff_not]at e
  obtain⟨u,rfl⟩:∃u:Nat,n=(u:Int):=⟨n.toNat,by omega⟩
  rw[Lib.itoa_nonneg]at HK
  exact ju u (by omega) _ fun h2 f2=>⟨_,rfl,.nil,HK h2 f2⟩
theorem GC{S:Nat->Prop}{h:Heap}{s:Sl}{rs:List Int}(H:aQ S h s rs)(B:∀x,x∈rs-> -1000000000000000000<=x/\x<=1000000000000000000)(hn:rs.length<=1000)(K:Value->Heap->Prop)(HK:∀h',Fr No h h'->K (VS ⟨(zL rs).toArray⟩) h'):aE Tryz.prog 180 #[s.v] h K:=by
 have sn:=H.len
 have B':∀x,x∈rs-> -9223372036854775808<=x/\x<=9223372036854775807:=fun x hx=>by have:=B x hx;omega
 refine agn s h K ⟨fun m out i h'=>0<=i/\i+m=(rs.length:Int)/\out=(⟨(zL (rs.take i.toNat)).toArray⟩:ByteArray)/\Fr No h h',⟨rs.length,by omega,by omega,rfl,Fr.refl _ _⟩,?_⟩
 rintro m out i h3 ⟨i0,i1,rfl,f3⟩ cF
 have H3:=H.no f3
 refine⟨fun e2=> ?_,fun e2=> ?_⟩
 ·have hi:=H3.lt e2
  have wB:i.toNat<rs.length:=by omega
  have b:=B _ (List.getElem_mem wB)
  have hl1:=Ee (rs:=rs.take i.toNat) fun x hx=>B' x (List.mem_of_mem_take hx)
  rw[List.length_take]at hl1
  generalize hB:zL (rs.take i.toNat)++(if i.toNat=0 then[]else[44])=Q
  have Ql:Q.length<=41001:=by rw[<-hB,List.length_append];split<;>simp only[List.length_nil,List.length_cons]<;>omega
  have next:zL (rs.take (i.toNat+1))=Q++Lib.itoa rs[i.toNat]:=by rw[<-hB];unfold zL;rw[tW Lib.itoa [44] wB]
  refine⟨H3.bC i0 hi,_,H3.get i0 hi,fun x h'=>x=(⟨Q.toArray⟩:ByteArray)/\h'=h3,⟨fun e5=>⟨?_,?_,rfl⟩,fun e5=>⟨?_,rfl⟩⟩,?_⟩
  ·rw[bZ];show _+1<=_;omega
  ·simp only[decide_eq_true_eq]at e5
   rw[show(⟨#[44]⟩:ByteArray)=⟨[44].toArray⟩from rfl,eO,<-hB,if_neg (by omega)]
  ·simp only[decide_eq_false_iff_not]at e5
   rw[<-hB,if_pos (by omega),List.append_nil]
  rintro x h5 ⟨rfl,rfl⟩ gj
  refine TN b.1 b.2 _ fun h6 f6=>⟨_,rfl,.nil,?_,?_⟩
  ·have:=pB (n:=rs[i.toNat]) (by omega) (by omega)
   rw[bZ,bZ];omega
  ·rw[eO,<-next,aG _ (by omega) (by omega)]
   exact⟨m-1,by omega,by omega,by omega,by rw[show(i+1).toNat=i.toNat+1 by omega],f3.aA f6⟩
 ·have hi:=H3.ge e2
  rw[List.take_of_length_le (by omega)]
  exact HK h3 f3
theorem GD{S:Nat->Prop}{h:Heap}{s:Sl}{rs:List Int}(H:aQ S h s rs){p:Int}(hp:0<=p/\p<=1000000000000000000)(B:∀x,x∈rs-> -1000000000000000000<=x/\x<=1000000000000000000)(hn:rs.length<=1000)(K:Value->Heap->Prop)(HK:∀h',Fr No h h'->K (VS ⟨(nT (rs,p)).toArray⟩) h'):aE Tryz.prog 130 #[.agg #[s.v,VI p]] h K:=by
 refine v130 s p h K fun b1 h1 eD f1 bY=> ?_
 have f1:=f1.aF
 obtain⟨u,rfl⟩:∃u:Nat,p=(u:Int):=⟨p.toNat,by omega⟩
 have dl:=(gF 18 u (by omega)).2
 have zl:=Ee (rs:=rs) fun x hx=>by have:=B x hx;omega
 refine ju u (by omega) _ fun h2 f2=>⟨_,rfl,bY.aB f2,by rw[bZ];show _+1<=_;omega,GC ((H.no f1).no f2) B hn _ fun h3 f3=>⟨_,rfl,(bY.aB f2).aB f3,?_,?_⟩⟩
 ·rw[show(⟨#[58]⟩:ByteArray)=⟨[58].toArray⟩from rfl,eO,bZ,bZ,List.length_append];show _+1+_<=_;omega
 ·rw[show(⟨#[58]⟩:ByteArray)=⟨[58].toArray⟩from rfl,eO,eO]
  have:=HK h3 ((f1.aA f2).aA f3)
  unfold nT at this
  rw[Lib.itoa_nonneg]at this
  simpa using this
theorem Jd{n:Int}{ok:Bool}(hn:ok=true->0<=n/\n<=1000000000000000000){h:Heap}(K:Value->Heap->Prop)(HK:∀h',Fr No h h'->K (VS ⟨(if ok=true then Lib.itoa n else[110,111]).toArray⟩) h'):aE Tryz.prog 134 #[VI n,VB ok] h K:=by
 refine afr n ok h K ⟨fun e=> ?_,fun e=> ?_⟩
 ·have e:ok=false:=by simpa using e
  rw[if_neg (by rw[e];decide)]at HK
  exact HK h (Fr.refl _ _)
 ·have e:ok=true:=by simpa using e
  rw[if_pos e]at HK
  have:=hn e
  obtain⟨u,rfl⟩:∃u:Nat,n=(u:Int):=⟨n.toNat,by omega⟩
  rw[Lib.itoa_nonneg]at HK
  exact ju u (by omega) _ fun h2 f2=>⟨_,rfl,.nil,HK h2 f2⟩
theorem PR{S:Nat->Prop}{h:Heap}{s:Sl}{rs:List Int}{ok:Bool}(H:ok=true->aQ S h s rs)(B:ok=true->∀x,x∈rs-> -1000000000000000000<=x/\x<=1000000000000000000)(hn:ok=true->rs.length<=1000)(K:Value->Heap->Prop)(HK:∀h',Fr No h h'->K (VS ⟨(if ok=true then zL rs else[110,111]).toArray⟩) h'):aE Tryz.prog 131 #[s.v,VB ok] h K:=by
 refine v131 s ok h K ⟨fun e=> ?_,fun e=> ?_⟩
 ·have e:ok=false:=by simpa using e
  rw[if_neg (by rw[e];decide)]at HK
  exact HK h (Fr.refl _ _)
 ·have e:ok=true:=by simpa using e
  rw[if_pos e]at HK
  exact GC (H e) (B e) (hn e) _ fun h2 f2=>⟨_,rfl,.nil,HK h2 f2⟩
def lZ(rs:List Int):List UInt8:=if rs.length=0 then[45]else zL rs
theorem aaf{rs:List Int}(B:∀x,x∈rs-> -9223372036854775808<=x/\x<=9223372036854775807):(lZ rs).length<=41*rs.length+1:=by
 have:=Ee B
 unfold lZ
 split
 ·simp
 ·omega
theorem vE{S:Nat->Prop}{h:Heap}(GL:gU h){s:Sl}{rs:List Int}(H:aQ S h s rs)(B:∀x,x∈rs-> -9223372036854775808<=x/\x<=9223372036854775807)(hn:rs.length<=1000)(K:Value->Heap->Prop)(HK:∀h',Fr No h h'->K (VS ⟨(lZ rs).toArray⟩) h'):aE Tryz.prog 89 #[s.v] h K:=by
 have sn:=aQ.len H
 refine v89 s h K ⟨fun e=> ?_,fun e=> ?_⟩
 ·simp only[decide_eq_true_eq]at e
  have:=HK h (Fr.refl _ _)
  unfold lZ at this
  rw[if_pos (by omega)]at this
  exact this
 simp only[decide_eq_false_iff_not]at e
 refine aP Ml (fun k=>h.size<=k) (fun _ h=>h) 0 (by omega) [] rfl rfl fun o h1 n1 c1 o1 f1 m1 _=>⟨o,rfl,.nil,?_⟩
 have z1:=f1.size
 have Rq:Ah h1 (fun k=>h.size<=k) o []:=o1
 have vx:∀{x:Heap},Fr (fun k=>h.size<=k) h x->Fr No h x:=fun f=>f.mono fun k hk aI=>absurd aI (by omega)
 refine⟨fun m x p h'=>0<=p/\p+m=(rs.length:Int)/\Ah h' (fun k=>h.size<=k) x ((rs.take p.toNat).map fun y=>(⟨(Lib.itoa y).toArray⟩:ByteArray))/\Fr (fun k=>h.size<=k) h h',⟨rs.length,by omega,by omega,by simpa using Rq,f1.aB⟩,?_⟩
 rintro m x p h2 ⟨p0,p1,o2,f2⟩ bW
 have z2:=f2.size
 have H2:=H.no (vx f2)
 refine⟨fun e2=> ?_,fun e2=> ?_⟩
 ·have hp:=H2.lt e2
  have bx:=B _ (List.getElem_mem (show p.toNat<rs.length by omega))
  refine⟨H2.bC p0 hp,_,H2.get p0 hp,jk (GL.no (vx f2)) bx.1 bx.2 _ fun h3 f3=>⟨_,rfl,.nil,?_⟩⟩
  refine mv (Ow.no o2 f3) (fun k hk=>by have:=f3.size;omega) .nil (fun q hq=>by cases hq) (by simp;omega) _ fun t h5 o5 f5 _=> ?_
  rw[H2.succ p0 hp]
  refine⟨m-1,by omega,by omega,by omega,?_,(f2.trans f3.aB).trans f5⟩
  rw[show(p+1).toNat=p.toNat+1 by omega,List.take_add_one,List.getElem?_eq_getElem (show p.toNat<rs.length by omega)]
  rw[List.map_append]
  exact o5
 ·have hp:=H2.ge e2
  rw[List.take_of_length_le (by omega)]at o2
  have hm:((rs.map fun y=>(⟨(Lib.itoa y).toArray⟩:ByteArray)).map (·.data.toList))=rs.map Lib.itoa:=by simp
  have VT:=Ee B
  unfold zL at VT
  refine HW o2.eW (fun hh=>by have:=congrArg List.length hh;simp at this;simp[this]at sn;omega) (by simp;omega) (by rw[hm];show(Lib.join _ [44]).length<=_;omega) _ fun h3 f3=>⟨_,rfl,.nil,?_⟩
  have:=HK h3 ((vx f2).trans f3)
  unfold lZ zL at this
  rw[if_neg (by omega)]at this
  rw[hm]
  exact this
def zM(s:St):List UInt8:=Lib.itoa s.2++58::lZ s.1
theorem vF{S:Nat->Prop}{h:Heap}(GL:gU h){s:Sl}{rs:List Int}(H:aQ S h s rs){p:Int}(hp: -9223372036854775808<=p/\p<=9223372036854775807)(B:∀x,x∈rs-> -9223372036854775808<=x/\x<=9223372036854775807)(hn:rs.length<=1000)(K:Value->Heap->Prop)(HK:∀h',Fr No h h'->K (VS ⟨(zM (rs,p)).toArray⟩) h'):aE Tryz.prog 55 #[.agg #[s.v,VI p]] h K:=by
 refine v55 s p h K fun b1 h1 eD f1 bY=> ?_
 have f1:=f1.aF
 have dl:=pB hp.1 hp.2
 have zl:=aaf B
 refine jk (GL.no f1) hp.1 hp.2 _ fun h2 f2=>⟨_,rfl,bY.aB f2,by rw[bZ];show _+1<=_;omega,vE ((GL.no f1).no f2) ((H.no f1).no f2) B hn _ fun h3 f3=>⟨_,rfl,(bY.aB f2).aB f3,?_,?_⟩⟩
 ·rw[show(⟨#[58]⟩:ByteArray)=⟨[58].toArray⟩from rfl,eO,bZ,bZ,List.length_append];show _+1+_<=_;omega
 ·rw[show(⟨#[58]⟩:ByteArray)=⟨[58].toArray⟩from rfl,eO,eO]
  have:=HK h3 ((f1.aA f2).aA f3)
  unfold zM at this
  simpa using this
theorem TO{S:Nat->Prop}{h:Heap}(GL:gU h){s:Sl}{rs:List Int}(ok:Bool)(H:aQ S h s rs)(B:∀x,x∈rs-> -9223372036854775808<=x/\x<=9223372036854775807)(hn:rs.length<=1000)(K:Value->Heap->Prop)(HK:∀h',Fr No h h'->K (.agg #[VS ⟨(lZ rs).toArray⟩,VB ok]) h'):aE Tryz.prog 158 #[s.v,VB ok] h K:=by
 refine afQ s ok h K fun b1 h1 eD f1 bY=> ?_
 have f1:=f1.aF
 refine vE (GL.no f1) (H.no f1) B hn _ fun h2 f2=>⟨_,rfl,bY.aB f2,fun h3 f3 cF=>HK h3 ?_⟩
 exact(f1.aA f2).fresh f3 fun k hk=>by simp[In]at hk;omega
theorem PS{h:Heap}(GL:gU h){n:Int}(ok:Bool)(hn: -9223372036854775808<=n/\n<=9223372036854775807)(K:Value->Heap->Prop)(HK:∀h',Fr No h h'->K (.agg #[VS ⟨(Lib.itoa n).toArray⟩,VB ok]) h'):aE Tryz.prog 116 #[VI n,VB ok] h K:=by
 refine aeZ n ok h K fun b1 h1 eD f1 bY=> ?_
 have f1:=f1.aF
 refine jk (GL.no f1) hn.1 hn.2 _ fun h2 f2=>⟨_,rfl,bY.aB f2,fun h3 f3 cF=>HK h3 ?_⟩
 exact(f1.aA f2).fresh f3 fun k hk=>by simp[In]at hk;omega
def fG(lo:Nat)(h:Heap):Prop:=∀X,Fr (fun k=>lo<=k) h X->gU X
theorem fG.here{lo:Nat}{h:Heap}(G:fG lo h):gU h:=G h (Fr.refl _ _)
theorem fG.next{lo:Nat}{h h':Heap}(G:fG lo h)(f:Fr (fun k=>lo<=k) h h'):fG lo h':=fun X fX=>G X (f.trans fX)
theorem fG.no{lo:Nat}{h h':Heap}(G:fG lo h)(f:Fr No h h'):fG lo h':=G.next f.aB
theorem fG.of{h:Heap}(G:gU h):fG h.size h:=fun X f=>G.no (f.mono fun k hk aI=>absurd aI (by omega))
theorem fG.up{lo lo':Nat}{h:Heap}(G:fG lo h)(hl:lo<=lo'):fG lo' h:=fun X f=>G X (f.mono fun k _ hk=>by omega)
structure oc(lo:Nat)(h:Heap)(b1:Nat)(g w:Sl)(d:Dk)(cw:Bool)(F F' Z:Nat->Prop):Prop where
 V:Vars h [(b1,[g.v,w.v,VI d.2.2,VB cw])]
 G:gQ h F g d.1
 W:bL h F' w d.2.1
 fl:∀k,F k->lo<=k/\¬Z k
 wl:∀k,F' k->lo<=k/\¬Z k
 dj:∀k,F k->¬F' k
 lb:lo<=b1
 xb:Z b1
 xh:∀k,Z k->k<h.size
def iY(lo:Nat)(h:Heap)(b1:Nat)(Z:Nat->Prop)(o:Option p7)(v:Value)(h':Heap):Prop:=
 ∃(t:ByteArray)(ok:Bool)(g w:Sl)(p:Int)(cw:Bool),v= .agg #[VS t,VB ok]/\Vars h' [(b1,[g.v,w.v,VI p,VB cw])]/\Fr (fun k=>k=b1\/h.size<=k) h h'/\match o with
  |none=>cw=true
  |some none=>cw=false/\ok=false
  |some (some r)=>cw=false/\ok=true/\t=⟨r.2.toArray⟩/\p=r.1.2.2/\∃F F',oc lo h' b1 g w r.1 false F F' Z
theorem oc.no{lo:Nat}{h h':Heap}{b1:Nat}{g w:Sl}{d:Dk}{cw:Bool}{F F' Z:Nat->Prop}(D:oc lo h b1 g w d cw F F' Z)(f:Fr No h h'):oc lo h' b1 g w d cw F F' Z:=⟨D.V.aB f,D.G.no f,Ow.no D.W f,D.fl,D.wl,D.dj,D.lb,D.xb,fun k hk=>Nat.lt_of_lt_of_le (D.xh k hk) f.size⟩
theorem oc.f1{lo:Nat}{h:Heap}{b1:Nat}{g w:Sl}{d:Dk}{cw:Bool}{F F' Z:Nat->Prop}(D:oc lo h b1 g w d cw F F' Z){k:Nat}(hk:F k):k≠b1:=fun e=>(D.fl k hk).2 (e▸D.xb)
theorem oc.w1{lo:Nat}{h:Heap}{b1:Nat}{g w:Sl}{d:Dk}{cw:Bool}{F F' Z:Nat->Prop}(D:oc lo h b1 g w d cw F F' Z){k:Nat}(hk:F' k):k≠b1:=fun e=>(D.wl k hk).2 (e▸D.xb)
theorem oc.fr{lo:Nat}{h h':Heap}{b1:Nat}{g w:Sl}{d:Dk}{cw:Bool}{F F' Z:Nat->Prop}(D:oc lo h b1 g w d cw F F' Z){T:Nat->Prop}(f:Fr T h h')(hT:∀k,T k->h.size<=k):oc lo h' b1 g w d cw F F' Z:=D.no (f.mono fun k hk h2=>by have:=hT k h2;omega)
theorem aW{h:Heap}{b1:Nat}{cs:List Value}:∀{L:List (Nat×List Value)},Vars h (L++[(b1,cs)])->Vars h [(b1,cs)]
 |[],V=>V
 |_::_,V=>aW V.tail
theorem p8{d:Dk}(h:nZ d):1<=d.2.1.length/\d.2.1.length<=8:=by
 have W:=cV h
 have:=aO W.bF
 have h2:d.2.1.length=d.1.length:=W.len
 omega
theorem UO{rs:List Int}(h:1<=rs.length):lZ rs=zL rs:=by unfold lZ;rw[if_neg (by omega)]
theorem p9{s:St}(h:1<=s.1.length):zM s=nT s:=by unfold zM nT;rw[UO h]
theorem Eg{lo:Nat}{h:Heap}(GL:fG lo h){b1:Nat}(vO:lo<=b1)(td:lo<=h.size){c1 c2 w1:Sl}{c3 p1:Int}{c4 ok:Bool}{S:Nat->Prop}{rs1:List Int}(hL:Vars h [(b1,[c1.v,c2.v,VI c3,VB c4])])(H:aQ S h w1 rs1)(hS:∀k,S k->k≠b1)(B:∀x,x∈rs1-> -9223372036854775808<=x/\x<=9223372036854775807)(hn:rs1.length<=1000)(hp: -9223372036854775808<=p1/\p1<=9223372036854775807)(K:Value->Heap->Prop)
 (HK:∀h',Fr (fun k=>k=b1) h h'->Vars h' [(b1,[c1.v,(if ok=true then w1 else c2).v,VI (if ok=true then p1 else c3),VB c4])]->K (.agg #[VS ⟨(zM (rs1,p1)).toArray⟩,VB ok]) h'):aE Tryz.prog 155 #[VP b1 0,.agg #[w1.v,VI p1],VB ok] h K:=by
 have lb:=hL.head.lt
 refine afL b1 c1 c2 c3 c4 w1 p1 ok h K hL fun b2 b3 h2 dK iT f2 bW=> ?_
 have f2:=f2.aF
 have z2:=f2.size
 have l3:=bW.head.lt
 have l2:=bW.tail.head.lt
 refine⟨fun x1 x2 x3 x4 h'=>x1=c1/\x2=(if ok=true then w1 else c2)/\x3=(if ok=true then p1 else c3)/\x4=c4/\Fr (fun k=>k=b1) h2 h',⟨fun e h3 f3 cF=>⟨rfl,by rw[if_pos e],by rw[if_pos e],rfl,f3.mono fun k _ hk=>by simpa[In]using hk⟩,fun e=>⟨rfl,by rw[if_neg (by rw[e];decide)],by rw[if_neg (by rw[e];decide)],rfl,Fr.refl _ _⟩⟩,?_⟩
 rintro _ _ _ _ h4 ⟨rfl,rfl,rfl,rfl,f4⟩ dS
 have z4:=f4.size
 have F4:Fr (fun k=>k=b1) h h4:=f2.aB.trans f4
 have H4:=H.fr F4 fun k hk aI=>hS k hk aI
 refine vF (GL.next (F4.mono fun k _ hk=>by omega)).here H4 hp B hn _ fun h5 f5=>⟨_,rfl,dS.aB f5,fun h6 f6 jJ=> ?_⟩
 refine HK h6 ?_ (aW (L:=[_,_]) jJ)
 exact(F4.trans f5.aB).B9 f6 fun k hk=>by simp only[In,List.mem_singleton]at hk;omega
theorem oc.low{lo:Nat}{h:Heap}{b1:Nat}{g w:Sl}{d:Dk}{cw:Bool}{F F' Z:Nat->Prop}(D:oc lo h b1 g w d cw F F' Z):oc lo h b1 g w d cw (fun k=>F k/\k<h.size) (fun k=>F' k/\k<h.size) Z:=⟨D.V,D.G.mono fun k hk hF=>⟨hF,hk⟩,Ow.mono D.W fun k hk hF=>⟨hF,(D.W.aH hk).2⟩,fun k hk=>D.fl k hk.1,fun k hk=>D.wl k hk.1,fun k h1 h2=>D.dj k h1.1 h2.1,D.lb,D.xb,D.xh⟩
theorem oc.aah{lo n:Nat}{h h':Heap}{b1:Nat}{g w w1:Sl}{d:Dk}{cw:Bool}{F F' Z:Nat->Prop}(D:oc lo h b1 g w d cw F F' Z){rs1:List Int}{p1:Int}(hn:h.size<=n)(V':Vars h' [(b1,[g.v,w1.v,VI p1,VB false])])(f:Fr (fun k=>k=b1\/n<=k) h h')(W1:bL h' (fun k=>n<=k) w1 rs1):∃F F',oc lo h' b1 g w1 (d.1,(rs1,p1)) false F F' Z:=by
 have lb:=D.V.head.lt
 have ll:=D.lb
 refine⟨fun k=>F k/\k<h.size,fun k=>n<=k,V',?_,W1,fun k hk=>D.fl k hk.1,fun k hk=>⟨by omega,fun hx=>by have:=D.xh k hx;omega⟩,fun k h1 h2=>by omega,D.lb,D.xb,fun k hk=>Nat.lt_of_lt_of_le (D.xh k hk) f.size⟩
 exact D.low.G.fr f fun k _ hk aI=>by
  have:=D.f1 hk.1
  have:=hk.2
  rcases aI with h|h<;>omega
theorem oc.aku{lo n:Nat}{h h':Heap}{b1:Nat}{g g1 w:Sl}{d:Dk}{cw:Bool}{F F' Z:Nat->Prop}(D:oc lo h b1 g w d cw F F' Z){ada:List (List Int)}(hn:h.size<=n)(V':Vars h' [(b1,[g1.v,w.v,VI d.2.2,VB false])])(f:Fr (fun k=>k=b1\/n<=k) h h')(G1:gQ h' (fun k=>n<=k) g1 ada):∃F F',oc lo h' b1 g1 w (ada,d.2) false F F' Z:=by
 have lb:=D.V.head.lt
 have ll:=D.lb
 refine⟨fun k=>n<=k,fun k=>F' k/\k<h.size,V',G1,?_,fun k hk=>⟨by omega,fun hx=>by have:=D.xh k hx;omega⟩,fun k hk=>D.wl k hk.1,fun k h1 h2=>by omega,D.lb,D.xb,fun k hk=>Nat.lt_of_lt_of_le (D.xh k hk) f.size⟩
 exact Ow.fr D.low.W f fun k hk aI=>by
  have h1:=(D.low.W.aH hk).1
  have:=D.w1 h1.1
  have:=h1.2
  rcases aI with h|h<;>omega
theorem uX{d:Dk}(h:nZ d):∀x,x∈d.2.1-> -9223372036854775808<=x/\x<=9223372036854775807:=fun x hx=>by
 have:=(fR (cV h)).1 x hx
 omega
theorem adb{lo:Nat}{h:Heap}(GL:fG lo h)(td:lo<=h.size){b1:Nat}{g w:Sl}{d:Dk}{F F' Z:Nat->Prop}(D:oc lo h b1 g w d false F F' Z)(ok:nZ d){a:Int}(ha:0<=a/\a<=999999)(K:Value->Heap->Prop)(HK:∀v h',iY lo h b1 Z (some (TM d a)) v h'->K v h'):aE Tryz.prog 160 #[VP b1 0,VI a] h K:=by
 have lb:=D.V.head.lt
 have dl:=p8 ok
 refine v160 b1 g w d.2.2 false a h K D.V fun b2 h1 dK f1 bY=> ?_
 have f1:=f1.aF
 have z1:=f1.size
 have Aq:=bY.head.lt
 refine ij (cK.no D.W.rd f1) d.2.2 (by omega) _ fun t h2 o2 f2=>⟨t,_,rfl,bY.aB f2,fun b3 h5 iT f5 gj=> ?_⟩
 have f5:=f5.aF
 have z2:=f2.size
 have z5:=f5.size
 have VE:=gj.head.lt
 refine fL _ fun x h6 o6 f6=>⟨x,rfl,gj.aB f6,?_⟩
 have z6:=f6.size
 have xQ:=((f1.aA f2).aA f5).aA f6
 refine su (D.G.rd.no xQ) o6.rd _ fun h7 f7=>⟨_,rfl,(gj.aB f6).aB f7,?_⟩
 have z7:=f7.size
 have Mh:=xQ.aA f7
 have D7:=D.no Mh
 obtain⟨bb,hb⟩:∃bb,bb=(aM d.1&&iz 0 ((d.1.length:Int)-1) a):=⟨_,rfl⟩
 have eb:(aM d.1&&[a].all (iz 0 ((d.1.length:Int)-1)))=bb:=by rw[hb];simp
 rw[eb]
 have W7:bL h7 (Iv h1.size h2.size) t d.2.1:=Ow.no (Ow.no (Ow.no o2 f5) f6) f7
 have jA:=(gj.aB f6).aB f7
 refine Eg (GL.no Mh) D.lb (by omega) D7.V W7.eW (fun k hk=>by have:=hk.1;omega) (uX ok) (by omega) (by omega) _ fun h8 f8 V8=> ?_
 have z8:=f8.size
 refine⟨g,(if bb=true then t else w),(if bb=true then a else d.2.2),false,_,bb,rfl,jA.set (i:=2) rfl f8 V8.head,fun h9 f9 fQ=>HK _ h9 ?_⟩
 have n9:∀{k:Nat},In [b2] k->k=b2:=fun hk=>by simpa[In]using hk
 have fB:Fr (fun k=>k=b1\/h.size<=k) h h9:=(Mh.aB.trans (f8.mono fun k _ hk=> .inl hk)).trans (f9.mono fun k _ hk=> .inr (by have:=n9 hk;omega))
 refine⟨_,bb,_,_,_,false,rfl,aW (L:=[_,_]) fQ,fB,?_⟩
 unfold TM BO
 rw[<-hb]
 cases bb with
 |false=>exact⟨rfl,rfl⟩
 |true=>
  have W9:=Ow.fr (Ow.fr W7 f8 fun k hk aI=>by have:=(W7.aH hk).1.1;omega) f9 fun k hk aI=>by have h1:=(W7.aH hk).1.1;have:=n9 aI;omega
  exact⟨rfl,rfl,by rw[p9 (s:=(d.2.1,a)) dl.1],rfl,D.aah (n:=h.size) (Nat.le_refl _) (aW (L:=[_,_]) fQ) fB (W9.mono fun k _ hk=>by have:=hk.1;omega)⟩
set_option maxHeartbeats 1000000 in
theorem TP{lo:Nat}{h:Heap}(GL:fG lo h)(td:lo<=h.size){b1:Nat}{g w:Sl}{d:Dk}{F F' Z:Nat->Prop}(D:oc lo h b1 g w d false F F' Z)(ok:nZ d){a c:Int}(ha:0<=a/\a<=999999)(hc:0<=c/\c<=999999)(K:Value->Heap->Prop)(HK:∀v h',iY lo h b1 Z (some (PQ d a c)) v h'->K v h'):aE Tryz.prog 168 #[VP b1 0,VI a,VI c] h K:=by
 have lb:=D.V.head.lt
 have dl:=p8 ok
 have WK:=cV ok
 have wl:d.2.1.length=d.1.length:=WK.len
 refine v168 b1 g w d.2.2 false a c h K D.V fun b2 h1 dK f1 bY=> ?_
 have f1:=f1.aF
 have z1:=f1.size
 have Aq:=bY.head.lt
 refine fL _ fun x h2 o2 f2=>⟨x,rfl,bY.aB f2,?_⟩
 have z2:=f2.size
 have Fi:=f1.aA f2
 refine su (D.G.rd.no Fi) o2.rd _ fun h3 f3=>⟨_,rfl,(bY.aB f2).aB f3,?_⟩
 have z3:=f3.size
 have gr:=Fi.aA f3
 have cF:=(bY.aB f2).aB f3
 have D3:=D.no gr
 have eb:(aM d.1&&[a].all (iz 0 ((d.1.length:Int)-1)))=(aM d.1&&iz 0 ((d.1.length:Int)-1) a):=by simp
 rw[eb]
 have n2:∀{k:Nat},In [b2] k->k=b2:=fun hk=>by simpa[In]using hk
 have fail:(aM d.1&&iz 0 ((d.1.length:Int)-1) a&&iz 0 (((d.1.getD a.toNat []).length:Int)-1) c)=false->∀{X Y:Heap}{t:ByteArray},Fr No h3 X->Fr (In [b2]) X Y->Vars Y [(b2,[VS t,VB false]),(b1,[g.v,w.v,VI d.2.2,VB false])]->K (.agg #[VS ⟨#[]⟩,VB false]) Y:=fun e X Y t fX fY V=>by
  refine HK _ Y ⟨⟨#[]⟩,false,g,w,d.2.2,false,rfl,aW (L:=[_]) V,?_,?_⟩
  ·exact(gr.aA fX).aB.trans (fY.mono fun k _ hk=> .inr (by have:=n2 hk;omega))
  ·unfold PQ BO
   rw[if_neg (by rw[e];exact Bool.false_ne_true)]
   exact⟨rfl,rfl⟩
 refine⟨fun e gM f12 ud=> ?_,fun e=> ?_⟩
 ·have e:(aM d.1&&iz 0 ((d.1.length:Int)-1) a)=false:=bA e
  exact fail (by rw[e,Bool.false_and]) (Fr.refl _ _) f12 ud
 have e:(aM d.1&&iz 0 ((d.1.length:Int)-1) a)=true:=aX e
 have ea:=aY.1 (Bool.and_eq_true_iff.1 e).2
 have hg:=(Bool.and_eq_true_iff.1 e).1
 obtain⟨si,c1,r1⟩:=D3.G.rd.get (i:=a) ha.1 (by omega)
 have rn:=r1.len
 have gk:=(aT hg (List.getElem_mem (show a.toNat<d.1.length by omega))).1
 have eg:d.1.getD a.toNat []=d.1[a.toNat]'(by omega):=aS (by omega)
 refine⟨D3.G.rd.bC ha.1 (by omega),si,c1,?_⟩
 rw[rn,aG _ (by omega) (by omega)]
 refine eJ _ _ _ h3 _ ⟨_,rfl,cF,fun e2 h5 f5 gj=> ?_,fun e2=> ?_⟩
 ·refine fail ?_ (Fr.refl _ _) f5 gj
  rw[e,Bool.true_and,eg]
  exact bA e2
 have e2':iz 0 (((d.1[a.toNat]'(by omega)).length:Int)-1) c=true:=aX e2
 refine ij (cK.no D.W.rd gr) d.2.2 (by omega) _ fun t h6 o6 f6=>⟨t,_,rfl,cF.aB f6,?_⟩
 have z6:=f6.size
 have tn:t.n=d.2.1.length:=by have:=o6.rd.len;simpa using this.symm
 refine⟨o6.bC ha.1 (by omega),fun b3 h8 iT f8 fP=> ?_⟩
 have f8:=f8.aF
 have z8:=f8.size
 have W8:=Ow.no o6 f8
 obtain⟨w1,w2,w3⟩:=W8.eY (i:=a) ha.1 (by omega) (VI c)
 have off:∀p,p∈[(b3,[t.v,VI d.2.2]),(b2,[VS (⟨#[]⟩:ByteArray),VB false]),(b1,[g.v,w.v,VI d.2.2,VB false])]->¬t.own p.1:=fun p hp hk=>by
  have h1:=(o6.aH hk)
  have:=h1.1.1
  have:=h1.2
  simp only[List.mem_cons,List.not_mem_nil,or_false]at hp
  rcases hp with rfl|rfl|rfl
  ·simp only at*;omega
  ·simp only at*;omega
  ·simp only at*;omega
 refine⟨w1,fP.fr w3 off,fun h9 e9 fQ=> ?_⟩
 subst e9
 have z9:=w3.size
 have W9:bL (Mx.cL h8 (t.at a 1) (VI c)) (Iv h3.size h6.size) t (d.2.1.set a.toNat c):=by show Ow _ _ _ _ _ _;rw[List.map_set];exact w2
 have Qi:Fr (fun k=>k=b1\/h.size<=k) h (Mx.cL h8 (t.at a 1) (VI c)):=((gr.aA f6).aA f8).aB.trans (w3.mono fun k _ hk=> .inr (by have:=(o6.aH hk).1.1;omega))
 have akv:Fr (fun k=>lo<=k) h (Mx.cL h8 (t.at a 1) (VI c)):=Qi.mono fun k _ hk=>by have:=D.lb;rcases hk with h|h<;>omega
 have rb:∀x,x∈d.2.1.set a.toNat c-> -9223372036854775808<=x/\x<=9223372036854775807:=fun x hx=>by
  rcases List.mem_or_eq_of_mem_set hx with hx|rfl
  ·exact uX ok x hx
  ·omega
 have sm:=(fR WK).2
 refine Eg (GL.next akv) D.lb (by omega) (aW (L:=[_,_]) fQ) W9.eW (fun k hk=>by have:=hk.1;omega) rb (by rw[List.length_set];omega) (by omega) _ fun dV f10 V10=> ?_
 refine⟨g,t,d.2.2,false,_,true,rfl,fQ.set (i:=2) rfl f10 V10.head,fun ic f11 iA=>HK _ ic ?_⟩
 have fB:Fr (fun k=>k=b1\/h.size<=k) h ic:=(Qi.trans (f10.mono fun k _ hk=> .inl hk)).trans (f11.mono fun k _ hk=> .inr (by have:=n2 hk;omega))
 refine⟨_,true,g,t,d.2.2,false,rfl,aW (L:=[_,_]) iA,fB,?_⟩
 unfold PQ BO
 rw[if_pos (by rw[e,Bool.true_and,eg];exact e2')]
 have W11:=Ow.fr (Ow.fr W9 f10 fun k hk aI=>by have:=(W9.aH hk).1.1;omega) f11 fun k hk aI=>by have h1:=(W9.aH hk).1.1;have:=n2 aI;omega
 exact⟨rfl,rfl,by rw[p9 (s:=(d.2.1.set a.toNat c,d.2.2)) (by rw[List.length_set];exact dl.1)],rfl,D.aah (n:=h.size) (Nat.le_refl _) (aW (L:=[_,_]) iA) fB (W11.mono fun k _ hk=>by have:=hk.1;omega)⟩
theorem TQ{h:Heap}{s:Sl}{sep:ByteArray}(hs:s.n=0)(K:Value->Heap->Prop)(HK:K (VS ⟨#[]⟩) h):aE Tryz.prog 90 #[s.v,VS sep] h K:=by
 refine⟨fun w hw=> .inr ⟨90,_,w,Go.Proofs.enters_of Tryz.func90 (by kernel_rfl) rfl _ _,rfl,?_⟩⟩
 subst hw
 have hv:s.v= .slice s.a 0 s.c:=by unfold Sl.v;rw[hs]
 rw[hv]
 refine(Tryz.strings_Join_none s.a s.c sep w).mono ?_
 rintro e w' ⟨rfl,rfl⟩
 exact⟨_,rfl,cN.refl _,HK⟩
theorem Eh{S:Nat->Prop}{h:Heap}{s:Sl}(H:bU S h s [])(K:Value->Heap->Prop)(HK:∀h',Fr No h h'->K (VS ⟨#[]⟩) h'):aE Tryz.prog 51 #[.agg #[s.v]] h K:=by
 have sn:s.n=0:=H.len
 refine v51 s h K fun b1 h1 eD f1 bY=> ?_
 have f1:=f1.aF
 refine aP Ml (fun k=>h1.size<=k) (fun _ h=>h) 0 (by omega) [] rfl rfl fun o h2 n2 c2 o2 f2 m2 _=>⟨o,rfl,bY.aB f2,?_⟩
 refine⟨fun m x i h'=>x=o/\i=0/\h'=h2,⟨0,rfl,rfl,rfl⟩,?_⟩
 rintro m _ _ _ ⟨rfl,rfl,rfl⟩ cF
 refine⟨fun e=>by rw[sn]at e;simp at e,fun e=>TQ n2 _ ⟨_,rfl,cF,HK _ (f1.aA f2)⟩⟩
theorem Ei{g:List (List Int)}{p q:Int}(h:(gS g p q).2=true):aM (gS g p q).1=true:=by
 unfold gS at h⊢
 split at h
 ·rename_i hc
  rw[if_pos hc]
  unfold j6
  have h:aM (g.set p.toNat (g.getD p.toNat []++[q]))=true:=h
  (try simp only)
  rw[if_pos h]
  exact h
 ·cases h
theorem TR{g:List (List Int)}{p q:Int}(h:(gS g p q).2=false):(gS g p q).1=[]:=by
 unfold gS at h⊢
 split
 ·rename_i hc
  rw[if_pos hc]at h
  have h:aM (g.set p.toNat (g.getD p.toNat []++[q]))=false:=h
  show j6 _=[]
  unfold j6
  rw[if_neg (by rw[h];exact Bool.false_ne_true)]
 ·rfl
theorem aai{lo:Nat}{h:Heap}(td:lo<=h.size){b1:Nat}{g w:Sl}{d:Dk}{F F' Z:Nat->Prop}(D:oc lo h b1 g w d false F F' Z)(a c:Int)(K:Value->Heap->Prop)(HK:∀v h',iY lo h b1 Z (some (UN d a c)) v h'->K v h'):aE Tryz.prog 167 #[VP b1 0,VI a,VI c] h K:=by
 have lb:=D.V.head.lt
 refine v167 b1 g w d.2.2 false a c h K D.V fun b2 h1 dK f1 bY=> ?_
 have f1:=f1.aF
 have z1:=f1.size
 have Aq:=bY.head.lt
 refine La (D.G.rd.no f1) a c _ fun t h2 o2 f2=>⟨t,_,rfl,bY.aB f2,fun b3 h4 iT f4 dS=> ?_⟩
 have f4:=f4.aF
 have z2:=f2.size
 have z4:=f4.size
 have jh:=(f1.aA f2).aA f4
 have n1:∀{k:Nat},In [b1] k->k=b1:=fun hk=>by simpa[In]using hk
 have n2:∀{k:Nat},In [b2] k->k=b2:=fun hk=>by simpa[In]using hk
 obtain⟨bb,hb⟩:∃bb,bb=(gS d.1 a c).2:=⟨_,rfl⟩
 rw[<-hb]
 have G4:=o2.no f4
 refine⟨fun x1 x2 x3 x4 h'=>x1=(if bb=true then t else g)/\x2=w/\x3=d.2.2/\x4=false/\Fr (fun k=>k=b1) h4 h',⟨fun e h5 f5 gj=>⟨by rw[if_pos e],rfl,rfl,rfl,f5.mono fun k _ hk=>n1 hk⟩,fun e=>⟨by rw[if_neg (by rw[e];decide)],rfl,rfl,rfl,Fr.refl _ _⟩⟩,?_⟩
 rintro _ x2 _ _ h6 ⟨rfl,rfl,rfl,rfl,f6⟩ jJ
 have z6:=f6.size
 have G6:=G4.fr f6 fun k _ hk aI=>by have:=hk.1;omega
 have fin:∀{tx:ByteArray}{h7:Heap},Fr No h6 h7->(bb=true->tx=⟨(tY (gS d.1 a c).1).toArray⟩)->Vars h7 [(b3,[t.v]),(b2,[VS (⟨#[]⟩:ByteArray),VB false]),(b1,[(if bb=true then t else g).v,x2.v,VI d.2.2,VB false])]/\∀h8:Heap,Fr (In [b2]) h7 h8->Vars h8 [(b3,[t.v]),(b2,[VS tx,VB bb]),(b1,[(if bb=true then t else g).v,x2.v,VI d.2.2,VB false])]->K (.agg #[VS tx,VB bb]) h8:=fun{tx h7} f7 htx=>⟨jJ.aB f7,fun h8 f8 fP=>by
  have fB:Fr (fun k=>k=b1\/h.size<=k) h h8:=((jh.aB.trans (f6.mono fun k _ hk=> .inl hk)).trans f7.aB).trans (f8.mono fun k _ hk=> .inr (by have:=n2 hk;omega))
  refine HK _ h8 ⟨tx,bb,_,x2,d.2.2,false,rfl,aW (L:=[_,_]) fP,fB,?_⟩
  unfold UN
  rw[<-hb]
  cases bb with
  |false=>exact⟨rfl,rfl⟩
  |true=>
   have G8:=(G6.no f7).fr f8 fun k _ hk aI=>by have:=hk.1;have:=n2 aI;omega
   exact⟨rfl,rfl,htx rfl,rfl,D.aku (n:=h.size) (Nat.le_refl _) (aW (L:=[_,_]) fP) fB (G8.mono fun k _ hk=>by have:=hk.1;omega)⟩⟩
 cases Sf:bb with
 |true=>
  subst Sf
  have gb:=Ei hb.symm
  refine oY G6.rd (jm gb) (aO gb).1 _ fun h7 f7=>⟨_,rfl,fin f7 fun _=>rfl⟩
 |false=>
  subst Sf
  rw[TR hb.symm]at G6
  refine Eh G6.rd _ fun h7 f7=>⟨_,rfl,fin f7 fun e=>by cases e⟩
theorem PT{lo:Nat}{h:Heap}(GL:fG lo h)(td:lo<=h.size){b1:Nat}{g w:Sl}{d:Dk}{F F' Z:Nat->Prop}(D:oc lo h b1 g w d false F F' Z){s:ByteArray}(hs:s.size<=100000)(K:Value->Heap->Prop)(HK:∀v h',iY lo h b1 Z (gpC s.data.toList) v h'->K v h'):aE Tryz.prog 111 #[VP b1 0,VS s] h K:=by
 have lb:=D.V.head.lt
 have ll:=D.lb
 refine aeP b1 g w d.2.2 false s h K D.V fun b2 h1 dK f1 bY=> ?_
 have f1:=f1.aF
 have z1:=f1.size
 have Aq:=bY.head.lt
 refine CS (GL.no f1).here hs _ fun t h2 o2 f2=>⟨t,_,rfl,bY.aB f2,fun e b3 h6 iT f6 jJ=> ?_,fun e b3 h4 iT f4 dS=> ?_⟩
 ·have Fi:=f1.aA f2
  have z2:=f2.size
  refine HK _ h6 ⟨_,_,g,w,d.2.2,true,rfl,aW (L:=[_,_]) jJ,Fi.aB.trans (f6.mono fun k _ hk=>by simp only[In,List.mem_cons,List.not_mem_nil,or_false]at hk;omega),?_⟩
  have:oX s.data.toList=none:=by
   cases hp:oX s.data.toList with
   |none=>rfl
   |some x=>unfold qj at e;rw[hp]at e;cases e
  unfold gpC
  rw[this]
 obtain⟨x,hp⟩:∃x,oX s.data.toList=some x:=by
  cases hp:oX s.data.toList with
  |none=>unfold qj at e;rw[hp]at e;cases e
  |some x=>exact⟨x,rfl⟩
 have ep:(qj s).1=x:=by unfold qj;rw[hp]
 rw[ep]at o2
 obtain⟨gb,_⟩:=wG hp
 have gl:=aO gb
 have f4:=f4.aF
 have z2:=f2.size
 have z4:=f4.size
 have VE:=dS.head.lt
 have jh:=(f1.aA f2).aA f4
 refine E7 (o2.no f4) (by omega) _ fun u h7 G7 W7 f7=>⟨t,u,0,rfl,dS.aB f7,fun h8 f8 fP=> ?_⟩
 have z7:=f7.size
 have n1:∀{k:Nat},In [b1] k->k=b1:=fun hk=>by simpa[In]using hk
 have n2:∀{k:Nat},In [b2] k->k=b2:=fun hk=>by simpa[In]using hk
 have z8:=f8.size
 have G8:=G7.fr f8 fun k _ hk aI=>by have:=hk.1.1;have:=n1 aI;omega
 have W8:=Ow.fr W7 f8 fun k hk aI=>by have:=(W7.aH hk).1;have:=n1 aI;omega
 refine oY G8.rd (jm gb) gl.1 _ fun h9 f9=>⟨_,rfl,fP.aB f9,fun dV f10 dL=> ?_⟩
 have z9:=f9.size
 have fB:Fr (fun k=>k=b1\/h.size<=k) h dV:=(((jh.aB.trans f7.aB).trans (f8.mono fun k _ hk=>by have:=n1 hk;omega)).trans f9.aB).trans (f10.mono fun k _ hk=>by have:=n2 hk;omega)
 refine HK _ dV ⟨_,_,t,u,0,false,rfl,aW (L:=[_,_]) dL,fB,?_⟩
 unfold gpC
 rw[hp]
 refine⟨rfl,rfl,rfl,rfl,fun k=>Iv h1.size h2.size k,fun k=>h4.size<=k,aW (L:=[_,_]) dL,?_,?_,fun k hk=>⟨by have:=hk.1;omega,fun hx=>by have:=hk.1;have:=D.xh k hx;omega⟩,fun k hk=>⟨by omega,fun hx=>by have:=D.xh k hx;omega⟩,fun k hk aI=>by have:=hk.2;omega,D.lb,D.xb,fun k hk=>by have:=D.xh k hk;have:=fB.size;omega⟩
 ·exact((G8.no f9).fr f10 fun k _ hk aI=>by have:=hk.1.1;have:=n2 aI;omega).mono fun k _ hk=>hk.1
 ·exact Ow.fr (Ow.no W8 f9) f10 fun k hk aI=>by have:=(W8.aH hk).1;have:=n2 aI;omega
end Go.Proofs.YtcnfcnoooecchaaGreatDoor
