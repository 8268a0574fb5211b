import Derived.Test.YtcfagpelpjdmaaaGreatDoorXzm
namespace Go.Proofs.YtcfagpelpjdmaaaGreatDoor.walk
open Go Go.AV Go.Proofs.S25 Go.Proofs.YtcfagpelpjdmaaaGreatDoor.law Go.ChangeShapes Go.WideShapes Go.ChangeAt Go.RowKit
def tp:cT:=⟨z7, .agg [.aA, .aA, .aA, .aA, .aA],120, .struct [22,23,23,24,25],false⟩
def tl:cT:=⟨.leaf, .aA,24, .slice 3,false⟩
theorem zsf (te:cT) {y:AV} (j:te.kind= .slice 3) (h:HT te y):∃ l:List Int,ew .leaf y (ab l)/\l.length*8<=reachBytes/\∀ i,i<l.length ->jS (l.getD i 0):=by
 have f:aY B3 3=some ⟨.leaf,co 0,8, .int .i64,false⟩:=am;exact YO (λn=>co n) 0 jS j f h λx e=>by
  obtain⟨m,rfl,r,o⟩:=zu4 (k:= .i64) rfl e;exact⟨m,ew.refl _ _,ajg ▸ r,aof ▸ o⟩
theorem aeo (te:cT) {y:AV} (r:te.kind= .struct [28,3]) (h:HT te y):∃ c:bq,y=tJ c:=by
 obtain⟨j,rfl,hl,e⟩:=X9 r h;match j,hl with
 | [a,b],_=>
  have⟨o,i⟩:=ra (k:= .i64) rfl (e 0 28 ⟨.leaf,co 0,8, .int .i64,false⟩ rfl am);have⟨m,f⟩:=ra (k:= .i64) rfl (e 1 3 ⟨.leaf,co 0,8, .int .i64,false⟩ rfl am);simp only[List.getD_cons_zero,List.getD_cons_succ]at i f;subst i f;exact⟨⟨o,m⟩,rfl⟩
def tc:cT:=⟨ct, .agg [co 0,co 0],16, .struct [28,3],true⟩
theorem con (e:List AV) (hl:e.length=[tp,tc,tl].length) (h:∀ (j:Nat) (te:cT),[tp,tc,tl][j]? =some te ->bF (fj 61) true te (e.getD j .any)):vg Tryz.prog GG 8 (List.zipWith vp [tp,tc,tl] e) (.bool true):=by
 match e,hl with
 | [a,b,d],_=>
  obtain⟨p,u,H,E⟩:=zu7 tp rfl (h 0 tp rfl);obtain⟨c,s⟩:=aeo tc rfl (h 1 tc rfl);obtain⟨l,o,K,z⟩:=zsf tl rfl (h 2 tl rfl);obtain⟨m,f,r,_⟩:=zeg (te:=tl) rfl (show aY B3 3=some ⟨.leaf, .int .i64 0,8, .int .i64,false⟩ by kernel_rfl) (h 2 tl rfl);simp only[List.getD_cons_zero,List.getD_cons_succ]at u s o r;subst s r;have J:=W8;exact((aw8 p c l H E aos aog ac λi=>by
   by_cases y:i<l.length
   . exact z i y
   . rw[x7,yi ac];exact⟨ap,ap⟩).pre (args':=[.mc z7 a, .mc ct (tJ c), .seq .leaf m f]) rfl λw F v j x k=>by
   match j,x with
   |0,_=>exact ew.mc u w F v k
   |1,_=>exact k
   |2,_=>exact o 0 ap w F v k).calls (fn:=Tryz.f8) Tryz.func8 (by kernel_rfl)
theorem anu (os:Os) (started:os.Started) (H:Type) (enc:TypeId×Value ->H):
 ReturnsInHanded {} Tryz.checked os 8 .any (λw args=>(Rows.execWalkSpec.pre enc Tryz.prog Tryz.f8 [] false w args/\laidMetH Tryz.prog zr1 w)/\sizedMet enc Tryz.prog Tryz.f8 (OpenSpec.ofChange Rows.execWalkSpec) false w args)
  (Rows.execWalkSpec.post enc Tryz.prog Tryz.f8 false true false false):=by
 refine z9o (C:=Tryz.checked) (P:=Tryz.prog) (by kernel_rfl) (X:=λw _=>laidMetH Tryz.prog zr1 w) (λ_ _ _ hh h=>h.of_heap hh) gX started (by kernel_rfl) Tryz.func8
  (ChangeSpec.witness_shaped (enc:=enc) (C:=Tryz.checked) (os:=os) (X:=λw _=>laidMetH Tryz.prog zr1 w) false (World.doorLaid Tryz.prog 400 os) #[.agg #[.slice none 0 0, .slice none 0 0, .slice none 0 0, .slice none 0 0, .slice none 0 0], .agg #[.int .i64 0, .int .i64 0], .slice none 0 0] 8 rfl (World.shaped_of_RefB (by kernel_rfl) (by kernel_rfl)) (by kernel_rfl) (by kernel_rfl) (by kernel_rfl) (zu8 os _)) ?_
 intro W base args ds gs before hval hW hsz hL;exact ahi (tes:=[tp,tc,tl]) rfl (by kernel_rfl) (by decide+kernel) (by kernel_rfl)
  (λds h=>by match ds,h with | [_,_,_],_=>rfl) con W (al2 hL) base args ds gs before (by with_reducible exact hval) (by with_reducible exact hW) (by with_reducible exact hsz)
theorem inst:Tryz.f8.isInstance Tryz.pinned.checked.prog Rows.execWalkRow.origin Rows.execWalkRow.targs:=wh (by kernel_rfl)
theorem wrap:Tryz.f8.isWrapper Tryz.pinned.checked.prog Rows.execWalkRow.wrapper Rows.execWalkRow.mainSum:=by unfold Func.isWrapper;first | (rw[x9 (by decide+kernel)];kernel_rfl) | (rw[x8 (by decide+kernel)];exact⟨rfl,rfl⟩)
theorem fnm:Tryz.pinned.checked.prog.funcNamed Rows.execWalkRow.func=some 8:=by kernel_rfl
theorem fat:Tryz.pinned.checked.prog.funcs[8]? =some Tryz.f8:=Tryz.func8
theorem closed:joinedFacts Tryz.pinned.checked.prog 8 Tryz.f8 Rows.execWalkSpec Rows.execWalkRow=true:=by kernel_rfl
theorem als (os:Os) (started:os.Started) (H:Type) (enc:TypeId×Value ->H) (_:∀ a b,enc a=enc b ->a=b):ReturnsInHanded Rows.execWalkRow.assume Tryz.pinned.checked os 8 .any (Rows.execWalkRow.pre enc Tryz.pinned.checked.prog Tryz.f8 (OpenSpec.ofChange Rows.execWalkSpec)) (Rows.execWalkSpec.post enc Tryz.pinned.checked.prog Tryz.f8 Rows.execWalkRow.apart Rows.execWalkRow.fresh Rows.execWalkRow.handsOn Rows.execWalkRow.again):=anu os started H enc
theorem holds:Rows.ExecWalkSaid:=
 OpenClaim.holds_of_wide (p:=Tryz.pinned) (s:=Rows.execWalkSpec) (c:=Rows.execWalkRow) 8 Tryz.f8 rfl rfl rfl rfl rfl rfl rfl ⟨rfl,rfl,rfl,rfl,rfl⟩ rfl rfl rfl rfl rfl fnm fat closed inst wrap als
end Go.Proofs.YtcfagpelpjdmaaaGreatDoor.walk
