/- printed by gen_dw2.py. Clubs: the examples of the law package, by computing: the fee, round by round. -/
import Derived.Test.YtcjcacbhkoainaaGreatDoorDw0
import Derived.Test.YtcjcacbhkoainaaGreatDoorPd
set_option linter.constructorNameAsVariable false
set_option linter.unusedSimpArgs false
set_option linter.unusedVariables false
set_option linter.unusedSectionVars false
namespace Go.Proofs.YtcjcacbhkoainaaGreatDoor
open Go Go.Proofs Go.RowKit
set_option maxHeartbeats 1000000
set_option maxRecDepth 100000
def exS(f:Int):Chn×(List Msg×(Int×(List Int×(List (List Int)×(List (Int×(Int×Int))×(List (Int×Int)×(List (Int×(Int×Int))×(Int×(Int×(Int×(Int×(List Msg×Unit)))))))))))) :=
 (exW.1,(exW.2.1,(exW.2.2.1,([3000,f],(exW.2.2.2.2.1,(exW.2.2.2.2.2.1,(exW.2.2.2.2.2.2.1,(exW.2.2.2.2.2.2.2.1,(exW.2.2.2.2.2.2.2.2.1,(exW.2.2.2.2.2.2.2.2.2.1,(exW.2.2.2.2.2.2.2.2.2.2.1,(exW.2.2.2.2.2.2.2.2.2.2.2,(exB,())))))))))))))
theorem en11(n:Nat)(f:Int):qdT (n+60) (100000,(exW.1,(exW.2.1,(exW.2.2.1,([3000,f],(exW.2.2.2.2.1,(exW.2.2.2.2.2.1,(exW.2.2.2.2.2.2.1,(exW.2.2.2.2.2.2.2.1,(exW.2.2.2.2.2.2.2.2.1,(exW.2.2.2.2.2.2.2.2.2.1,(exW.2.2.2.2.2.2.2.2.2.2.1,(exW.2.2.2.2.2.2.2.2.2.2.2,(exB,(1,(3000,()))))))))))))))))=some (true,(exW.1,(exW.2.1,(exW.2.2.1,([3000,100000],(exW.2.2.2.2.1,(exW.2.2.2.2.2.1,(exW.2.2.2.2.2.2.1,(exW.2.2.2.2.2.2.2.1,(exW.2.2.2.2.2.2.2.2.1,(exW.2.2.2.2.2.2.2.2.2.1,(exW.2.2.2.2.2.2.2.2.2.2.1,(exW.2.2.2.2.2.2.2.2.2.2.2,(exB,(1,(3000,())))))))))))))))):=by kernel_rfl
theorem cl11(n:Nat):qdo (n+60) ([3000,2501],())=some ([3000,2501],()):=by kernel_rfl
theorem rd0(n:Nat)(rec)(f:Int):qx (n+60) rec (0,(100000,(1,(3000,exS f))))=rec (0,(50000,(1,(3000,exS 50000)))):=by kernel_rfl
theorem rd1(n:Nat)(rec)(f:Int):qx (n+60) rec (0,(50000,(1,(3000,exS f))))=rec (0,(25000,(1,(3000,exS 25000)))):=by kernel_rfl
theorem rd2(n:Nat)(rec)(f:Int):qx (n+60) rec (0,(25000,(1,(3000,exS f))))=rec (0,(12500,(1,(3000,exS 12500)))):=by kernel_rfl
theorem rd3(n:Nat)(rec)(f:Int):qx (n+60) rec (0,(12500,(1,(3000,exS f))))=rec (0,(6250,(1,(3000,exS 6250)))):=by kernel_rfl
theorem rd4(n:Nat)(rec)(f:Int):qx (n+60) rec (0,(6250,(1,(3000,exS f))))=rec (3126,(6250,(1,(3000,exS 3125)))):=by kernel_rfl
theorem rd5(n:Nat)(rec)(f:Int):qx (n+60) rec (3126,(6250,(1,(3000,exS f))))=rec (3126,(4688,(1,(3000,exS 4688)))):=by kernel_rfl
theorem rd6(n:Nat)(rec)(f:Int):qx (n+60) rec (3126,(4688,(1,(3000,exS f))))=rec (3126,(3907,(1,(3000,exS 3907)))):=by kernel_rfl
theorem rd7(n:Nat)(rec)(f:Int):qx (n+60) rec (3126,(3907,(1,(3000,exS f))))=rec (3126,(3516,(1,(3000,exS 3516)))):=by kernel_rfl
theorem rd8(n:Nat)(rec)(f:Int):qx (n+60) rec (3126,(3516,(1,(3000,exS f))))=rec (3322,(3516,(1,(3000,exS 3321)))):=by kernel_rfl
theorem rd9(n:Nat)(rec)(f:Int):qx (n+60) rec (3322,(3516,(1,(3000,exS f))))=rec (3322,(3419,(1,(3000,exS 3419)))):=by kernel_rfl
theorem rd10(n:Nat)(rec)(f:Int):qx (n+60) rec (3322,(3419,(1,(3000,exS f))))=rec (3322,(3370,(1,(3000,exS 3370)))):=by kernel_rfl
theorem rd11(n:Nat)(rec)(f:Int):qx (n+60) rec (3322,(3370,(1,(3000,exS f))))=rec (3322,(3346,(1,(3000,exS 3346)))):=by kernel_rfl
theorem rd12(n:Nat)(rec)(f:Int):qx (n+60) rec (3322,(3346,(1,(3000,exS f))))=rec (3322,(3334,(1,(3000,exS 3334)))):=by kernel_rfl
theorem rd13(n:Nat)(rec)(f:Int):qx (n+60) rec (3322,(3334,(1,(3000,exS f))))=rec (3329,(3334,(1,(3000,exS 3328)))):=by kernel_rfl
theorem rd14(n:Nat)(rec)(f:Int):qx (n+60) rec (3329,(3334,(1,(3000,exS f))))=rec (3332,(3334,(1,(3000,exS 3331)))):=by kernel_rfl
theorem rd15(n:Nat)(rec)(f:Int):qx (n+60) rec (3332,(3334,(1,(3000,exS f))))=rec (3332,(3333,(1,(3000,exS 3333)))):=by kernel_rfl
theorem rd16(n:Nat)(rec)(f:Int):qx (n+60) rec (3332,(3333,(1,(3000,exS f))))=rec (3332,(3332,(1,(3000,exS 3332)))):=by kernel_rfl
theorem rde(n:Nat)(rec)(f:Int):qx (n+60) rec (3332,(3332,(1,(3000,exS f))))=some (3332,()):=by kernel_rfl
theorem lp11(n:Nat)(f:Int):qg (n+60) (qx (n+60)) (0,(100000,(1,(3000,exS f))))=some (3332,()):=(rd0 n (qg (n+59) _) _).trans ((rd1 n (qg (n+58) _) _).trans ((rd2 n (qg (n+57) _) _).trans ((rd3 n (qg (n+56) _) _).trans ((rd4 n (qg (n+55) _) _).trans ((rd5 n (qg (n+54) _) _).trans ((rd6 n (qg (n+53) _) _).trans ((rd7 n (qg (n+52) _) _).trans ((rd8 n (qg (n+51) _) _).trans ((rd9 n (qg (n+50) _) _).trans ((rd10 n (qg (n+49) _) _).trans ((rd11 n (qg (n+48) _) _).trans ((rd12 n (qg (n+47) _) _).trans ((rd13 n (qg (n+46) _) _).trans ((rd14 n (qg (n+45) _) _).trans ((rd15 n (qg (n+44) _) _).trans ((rd16 n (qg (n+43) _) _).trans (rde n (qg (n+42) _) _)))))))))))))))))
theorem qxE(n:Nat)(u:Chn×(List Msg×(Int×(List Int×(List (List Int)×(List (Int×(Int×Int))×(List (Int×Int)×(List (Int×(Int×Int))×(Int×(Int×(Int×Int)))))))))))(hut need:Int)(bk:List Msg)(ho:qhB n (u,())=some (.inl (0,(u,(bk,())))))(hh:wi hut 0 (iW (iSub (u.1.1.length:Int) 1))=true)(hn:wi need 0 1000000000=true)(fees:List Int)(hc:qdo n (u.2.2.2.1,())=some (fees,()))
  (fees2:List Int) (he:qdT n (100000,(u.1,(u.2.1,(u.2.2.1,(fees,(u.2.2.2.2.1,(u.2.2.2.2.2.1,(u.2.2.2.2.2.2.1,(u.2.2.2.2.2.2.2.1,(u.2.2.2.2.2.2.2.2.1,(u.2.2.2.2.2.2.2.2.2.1,(u.2.2.2.2.2.2.2.2.2.2.1,(u.2.2.2.2.2.2.2.2.2.2.2,(bk,(hut,(need,()))))))))))))))))=some (true,(u.1,(u.2.1,(u.2.2.1,(fees2,(u.2.2.2.2.1,(u.2.2.2.2.2.1,(u.2.2.2.2.2.2.1,(u.2.2.2.2.2.2.2.1,(u.2.2.2.2.2.2.2.2.1,(u.2.2.2.2.2.2.2.2.2.1,(u.2.2.2.2.2.2.2.2.2.2.1,(u.2.2.2.2.2.2.2.2.2.2.2,(bk,(hut,(need,())))))))))))))))))
  (r:Int×Unit) (hl:qg n (qx n) (0,(100000,(hut,(need,(u.1,(u.2.1,(u.2.2.1,(fees2,(u.2.2.2.2.1,(u.2.2.2.2.2.1,(u.2.2.2.2.2.2.1,(u.2.2.2.2.2.2.2.1,(u.2.2.2.2.2.2.2.2.1,(u.2.2.2.2.2.2.2.2.2.1,(u.2.2.2.2.2.2.2.2.2.2.1,(u.2.2.2.2.2.2.2.2.2.2.2,(bk,())))))))))))))))))=some r):qhC n (u,(hut,(need,())))=some (r.1,(0,())):=by
 rw[qqs,ho]
 simp only[Sum.elim_inl,Option.bind_some,qrm,qpv rfl,cond_true,hh,hn,Bool.not_true,cond_false,qiy rfl,hc,he,hl]
theorem qyC(n:Nat):qhC (n+60) (exW,(1,(3000,())))=some (3332,(0,())) :=
 qxE (n+60) exW 1 3000 exB (qwt n) (by decide) (by decide) [3000,2501] (cl11 n) [3000,100000] (en11 n 2501) (3332,()) (lp11 n 100000)
end Go.Proofs.YtcjcacbhkoainaaGreatDoor
