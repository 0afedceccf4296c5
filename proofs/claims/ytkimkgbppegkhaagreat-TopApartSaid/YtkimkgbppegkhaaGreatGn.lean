/- The clean machine's walks of decoding: what is looked at first. -/
import Derived.Test.YtkimkgbppegkhaaGreatGm
set_option linter.unusedVariables false
set_option linter.unusedSimpArgs false
namespace Go.Proofs.YtkimkgbppegkhaaGreat.Cm
open Go Go.RowKit Go.Proofs.YtkimkgbppegkhaaGreat.Gf
set_option maxRecDepth 1000000
/-- a symbol: its number, and its row -/
def eE(X:Heap)(p:Nat×List Nat)(c:List F):Prop:=∃g,c=[iN p.1,g]∧aB X g p.2
theorem eE.mono(X Y:Heap)(p:Nat×List Nat)(c:List F)(hm:ab X Y)(h:eE X p c):eE Y p c:=by
 obtain⟨g,h1,h2⟩:=h
 exact⟨g,h1,h2.mono hm⟩
abbrev lw:=ch eE 2
section
variable {P:Program} {H:Heap} {n:Nat} {o:Oper} {r:Operand→Option V}
noncomputable def qw(P:Program)(o:Oper)(r:Operand→Option V):Option (Nat×U×U):=match o.op with
 |.lookup t m k false=>match P.underlying t,r m,r k with
  |some (.map kt et),some (.u (.f (.map id))),some (.u k)=>match mV P et with
   |some z=>cL (dg P kt k true) (cL (dg P kt k false) (some (id,k,z)))
   |none=>none
  |_,_,_=>none
 |_=>none
theorem rH{kt:TypeId}{k:U}{e:Bool}(h1:dg P kt k true=true)(h2:dg P kt k false=true):dg P kt k e=true:=by cases e<;>assumption
theorem Gy{id i:Nat}{es:List (U×U)}{k z v:U}(hh:H id=some (.mp es))(hf:cg k es 0=some (some (i,v)))(hk:qw P o r=some (id,k,z):=by kernel_rfl):aE P o r H n (.u v) H n:=by
 unfold qw at hk
 split at hk
 ·rename_i t m k' ho
  split at hk
  ·rename_i kt et id' k2 h1 h2 h3
   split at hk
   ·rename_i z' hz
    obtain⟨g1,hk⟩:=cD hk
    obtain⟨g2,hk⟩:=cD hk
    cases hk
    exact .prim (.u v,[],0) (by simp only[ho,stepOp,h1,h2,h3,hz,hh];rw[if_pos (rH g1 g2)];simp only[hf];rfl)
   ·cases hk
  ·cases hk
 ·cases hk
theorem GA{id:Nat}{es:List (U×U)}{k z:U}(hh:H id=some (.mp es))(hf:cg k es 0=some none)(hk:qw P o r=some (id,k,z):=by kernel_rfl):aE P o r H n (.u z) H n:=by
 unfold qw at hk
 split at hk
 ·rename_i t m k' ho
  split at hk
  ·rename_i kt et id' k2 h1 h2 h3
   split at hk
   ·rename_i z' hz
    obtain⟨g1,hk⟩:=cD hk
    obtain⟨g2,hk⟩:=cD hk
    cases hk
    exact .prim (.u z,[],0) (by simp only[ho,stepOp,h1,h2,h3,hz,hh];rw[if_pos (rH g1 g2)];simp only[hf];rfl)
   ·cases hk
  ·cases hk
 ·cases hk
noncomputable def qu(P:Program)(o:Oper)(r:Operand→Option V):Option (Nat×U×U):=match o.op with
 |.mapUpdate t m k x=>match P.underlying t,r m,r k,r x with
  |some (.map kt _),some (.u (.f (.map id))),some (.u k),some (.u v)=>cL (dg P kt k true) (cL (dg P kt k false) (some (id,k,v)))
  |_,_,_,_=>none
 |_=>none
theorem Al{id:Nat}{es:List (U×U)}{k v:U}(hh:H id=some (.mp es))(hf:cg k es 0=some none)(hk:qu P o r=some (id,k,v):=by kernel_rfl):aE P o r H n cy (upd H id (some (.mp (es++[(k,v)])))) n:=by
 unfold qu at hk
 split at hk
 ·rename_i t m k' x ho
  split at hk
  ·rename_i kt et id' k2 v2 h1 h2 h3 h4
   obtain⟨g1,hk⟩:=cD hk
   obtain⟨g2,hk⟩:=cD hk
   cases hk
   exact .prim (cy,[(id,some (.mp (es++[(k,v)])))],0) (by simp only[ho,stepOp,h1,h2,h3,h4,hh];rw[if_pos (rH g1 g2)];simp only[hf])
  ·cases hk
 ·cases hk
end
theorem HL{X H:Heap}{n:Nat}{M:List (Nat×O)}(s:aa X H n M)(j:Nat){id:Nat}{es:List (U×U)}{k v:U}(hj:M[j]?=some (id,.mp es))(hf:cg k es 0=some none):
 ∃H',aa X H' n (M.set j (id,.mp (es++[(k,v)])))∧∀(o:Oper) (r:Operand→Option V) (_:qu Tryz.prog o r=some (id,k,v):=by kernel_rfl),aE Tryz.prog o r H n cy H' n:=
 ⟨_,s.set j hj _,fun _ _ hk=>Al (s.at j hj) hf hk⟩
/-- what was seen -/
def dr(l:List (Nat×List Nat)):List (U×U):=l.map fun p=>(.f (iN p.1),.f (.bool true))
theorem u9:∀(l:List (Nat×List Nat)) (e i:Nat),(∃p∈l,p.1=e)→∃j,cg (.f (iN e)) (dr l) i=some (some (j,.f (.bool true)))
 |[],e,i,h=>by simp at h
 |p::l,e,i,h=>by
  simp only[dr,List.map_cons,cg,if_true]
  by_cases he:(e:Int)=(p.1:Int)
  ·exact⟨i,by rw[if_pos he]⟩
  ·rw[if_neg he]
   refine u9 l e (i+1) ?_
   obtain⟨q,hq,rfl⟩:=h
   rcases List.mem_cons.1 hq with rfl | hq
   ·exact absurd rfl he
   ·exact⟨q,hq,rfl⟩
theorem vV:∀(l:List (Nat×List Nat)) (e i:Nat),(∀p∈l,p.1≠e)→cg (.f (iN e)) (dr l) i=some none
 |[],e,i,h=>rfl
 |p::l,e,i,h=>by
  simp only[dr,List.map_cons,cg,if_true]
  have:=h p sm
  rw[if_neg om]
  exact vV l e (i+1) fun q hq=>h q (by simp[hq])
theorem CP(l:List (Nat×List Nat))(p:Nat×List Nat):dr (l++[p])=dr l++[(.f (iN p.1),.f (.bool true))]:=by simp[dr]
/-- of each number the first one alone -/
def dd(l:List (Nat×List Nat)):List (Nat×List Nat):=l.foldl (fun acc p=>if acc.any (fun q=>q.1 == p.1)then acc else acc++[p]) []
theorem yv(l:List (Nat×List Nat))(p:Nat×List Nat):dd (l++[p])=if(dd l).any (fun q=>q.1 == p.1)then dd l else dd l++[p]:=by
 unfold dd
 rw[List.foldl_append]
 rfl
theorem CQ{X:Heap}{n:Nat}{e:Nat}(he:e<16777216)(ht:ap X n):af 53 [vi e] X n fun v X'=>v=vf (.bool false):=by
 refine af.of_to kr ?_
 have s0:=aa.ini ht
 have hm0:ab X X:=ab.rfl
 refine ah 1 (ai 1 (ov 4 (lF e 0) (go 2 (ov 7 (hF e 16777216) (ax 2 ?_)))))
 exact⟨.inr rfl,_,kr,X,_,s0,hm0,rfl⟩
theorem Hz{X:Heap}{n:Nat}{e:Nat}{g:F}(he:e<16777216)(ht:ap X n):af 52 [.u (.agg [iN e,g])] X n fun v X'=>v=vf (.bool false):=by
 refine af.of_to kr ?_
 have s0:=aa.ini ht
 have hm0:ab X X:=ab.rfl
 refine ag ?_
 obtain⟨H1,s2,J3⟩:=cu s0 (.cells [iN e,g] true)
 refine ov 1 (J3 _ _ (vf (.ptr (n) (0)))) (ae 1 (ai 1 (ov 4 (am (off:=0) (x:=iN e) (s2.at 0 rfl) kr) ?_)))
 obtain⟨_,X4,n5,hc6,hm7,ht8,rfl⟩:=(CQ he s2.topX:af 53 [vi e] X (n+1) _)
 obtain⟨H9,hc10,s⟩:=s2.call hc6 hm7 ht8
 have hm0:=hm0.tr hm7
 refine ov 5 (jC hc10) (ax 1 ?_)
 exact⟨.inr rfl,_,kr,X4,_,s,hm0,rfl⟩
theorem HH{X:Heap}{n:Nat}{b e N:Nat}{g:F}(d:List Nat)(hg:aB X g d)(hb:X b=some (.cells [iN N] true))(hd:d.length=N)(ht:ap X n):af 54 [.u (.agg [iN e,g]),vf (.ptr (b) (0))] X n fun v X'=>v=vf (.bool false):=by
 refine af.of_to kr ?_
 have s0:=aa.ini ht
 have hm0:ab X X:=ab.rfl
 refine ag ?_
 obtain⟨_,s,J⟩:=cu s0 (.cells [iN e,g] true)
 refine ov 2 (J _ _ (vf (.ptr (n) (0)))) (ae 1 (ai 1 (ov 5 (am (off:=1) (x:=g) (s.at 0 rfl) kr) (ov 6 (lv d.length hg.lenA) (ov 7 (am (off:=0) (x:=iN N) (s.mono _ _ hb) kr) (ov 8 (uF d.length N) (ax 1 ?_)))))))
 exact⟨.inr rfl,_,kr,X,_,s,hm0,rfl⟩
theorem AH{X:Heap}{n:Nat}{f:F}{g:Nat}{caps:List F}{l:List (Nat×List Nat)}(hr:lw X f l)(hlt:l.length<100000)(hgo:bX Tryz.prog g=true)(hg:∀(i:Nat) p,l[i]?=some p→∀c Y m,eE Y p c→ab X Y→ap Y m→af g ([.u (.agg c)]++caps.map fun x=>.u (.f x)) Y m fun v _=>v=vf (.bool false))(ht:ap X n):af 72 [vf (f),.u (.fn g caps)] X n fun v X'=>v=vf (.int .i64 (-1)):=by
 refine af.of_to kr ?_
 have s0:=aa.ini ht
 have hm0:ab X X:=ab.rfl
 refine ah 1 (aP 1 (ov 7 (lv l.length hr.lenA) (ae 1 (bk 0 (To.loop kr (aC.for (l.length) (fun i A Hq nq=>∃(Y:Heap),aL A [(0,vf (f)),(1,.u (.fn g caps)),(7,vi l.length),(8,vi i)]∧aa Y Hq nq []∧(ab X Y)∧(lw Y f l)) ⟨X,az (ts:=[0,1,7,8]) kr,s0,(hm0),(hr)⟩ (fun i A H n1 hi hI=>?_) (fun A H n1 hI=>?_)))))))
 ·obtain⟨Y,hT,s,hm0,hr⟩:=hI
  refine To.keep _ ?_ hT.sub
  have hx:l[i]?=some l[i]:=List.getElem?_eq_getElem hi
  obtain⟨id,off,cap,all,ex,c,rfl,h2,h3,h4,hR⟩:=hr.at hx
  refine ag (ov 9 (lT i l.length) (aQ (aM (nx (aD 1 (ah 2 (ai 3 (ov 14 (ix id off 2 l.length i) (ov 15 (aG (id:=id) (off:=off+i*2) (sz:=2) (c:=c) (s.mono _ _ h2) h3 h4) ?_)))))))))
  obtain⟨_,W,_,hc20,hm21,ht22,rfl⟩:=(hg i _ hx _ _ _ hR hm0 s.topX:af g ([.u (.agg (c))]++caps.map fun x=>.u (.f x)) Y (n1) _)
  obtain⟨_,hc24,s⟩:=s.call hc20 hm21 ht22
  have hm0:=hm0.tr hm21
  have hr:=hr.mono eE.mono hm21
  refine ov 16 (b_ hgo hc24 kr) (aj (ar (nx (rg (ov 18 (aN i 1) (aR 1 ?_))))))
  exact .inl ⟨rfl,W,az (ts:=[0,1,7,8]) kr,s,(hm0),(hr)⟩
 ·obtain⟨Y,hT,s,hm0,hr⟩:=hI
  refine To.keep _ ?_ hT.sub
  refine ag (ov 9 (au (cr .i64 (x:=(((l.length):Nat):Int)) (y:=((l.length:Nat):Int)) sm)) (aQ (iF (To.exit 0 kr ?_))))
  refine⟨sm,?_⟩
  show To Tryz.prog 72 [1,1] _ _ _ _
  refine ah 1 (rt ?_)
  exact⟨.inr rfl,_,kr,Y,_,s,hm0,rfl⟩
theorem t0{X:Heap}{n:Nat}{f:F}{g:Nat}{caps:List F}{l:List (Nat×List Nat)}(hr:lw X f l)(hlt:l.length<100000)(hgo:bX Tryz.prog g=true)(hg:∀(i:Nat) p,l[i]?=some p→∀c Y m,eE Y p c→ab X Y→ap Y m→af g ([.u (.agg c)]++caps.map fun x=>.u (.f x)) Y m fun v _=>v=vf (.bool false))(ht:ap X n):af 51 [vf (f),.u (.fn g caps)] X n fun v X'=>v=vf (.bool false):=by
 refine af.of_to kr ?_
 have s0:=aa.ini ht
 have hm0:ab X X:=ab.rfl
 refine ah 1 (ai 2 ?_)
 obtain⟨_,W,_,hc29,hm30,ht31,rfl⟩:=(AH hr hlt hgo hg s0.topX:af 72 [vf (f),.u (.fn g caps)] X (n) _)
 obtain⟨_,hc33,s⟩:=s0.call hc29 hm30 ht31
 have hm0:=hm0.tr hm30
 refine ov 7 (jC hc33) (ov 8 (au (gS .i64 (x:=(-1:Int)) (y:=(0:Int)) om)) (ax 1 ?_))
 exact⟨.inr rfl,_,kr,W,_,s,hm0,rfl⟩
theorem pD{l:List (Nat×List Nat)}:∀{p},p∈dd l→p∈l:=by
 have:∀(l acc:List (Nat×List Nat)) (p:Nat×List Nat),p∈l.foldl (fun acc p=>if acc.any (fun q=>q.1 == p.1)then acc else acc++[p]) acc→p∈acc∨p∈l:=by
  intro l
  induction l with
  |nil=>intro acc p h;exact .inl h
  |cons x l ih=>
   intro acc p h
   rcases ih _ p h with h1 | h1
   ·simp only at h1
    split at h1
    ·exact .inl h1
    ·rcases List.mem_append.1 h1 with h2 | h2
     ·exact .inl h2
     ·simp at h2;subst h2;exact .inr sm
   ·exact .inr (by simp[h1])
 intro p h
 rcases this l [] p h with h1 | h1
 ·cases h1
 ·exact h1
theorem yX(l:List (Nat×List Nat)):(dd l).length≤l.length:=by
 have:∀(l acc:List (Nat×List Nat)),(l.foldl (fun acc p=>if acc.any (fun q=>q.1 == p.1)then acc else acc++[p]) acc).length≤acc.length+l.length:=by
  intro l
  induction l with
  |nil=>intro acc;simp
  |cons x l ih=>
   intro acc
   refine Nat.le_trans (ih _) ?_
   simp only
   split
   ·simp
   ·simp;omega
 have h:=this l []
 rw[List.length_nil,Nat.zero_add]at h
 exact h
theorem li(l:List Nat)(x:Nat):is (l++[x])=is l++[iN x]:=by simp[is]
theorem mZ{N:Nat}{l:List (Nat×List Nat)}(h:∀p∈l,Rw N p.2):Mx ((dd l).map (·.1)).length N ((dd l).map (·.2)):=⟨sm,fun r hr=>by
 obtain⟨p,hp,rfl⟩:=List.mem_map.1 hr
 exact h p (pD hp)⟩
theorem Bw{X:Heap}{n:Nat}{k N:Nat}{f:F}(l:List (Nat×List Nat))(h1:1≤k)(h8:k≤8)(hr:lw X f l)(hok:∀p∈l,gc k p.1∧p.1<16777216∧Rw N p.2)(hlt:l.length<5000)(hN0:0<N)(hN:N≤64)(ht:ap X n):af 31 [vi k,vi N,vf (f)] X n fun v X'=>∃g e,v=.tup [.f g,.f (.int .i64 e)]∧((e=0∧∃cs,bJ X' g ((List.range k).map fun e=>a9 N (cO k e) cs)∧dV (lK k) N (sK k+2+((dd l).map (·.1)).length) (dB k ((dd l).map (·.1))) (eS k N ((dd l).map (·.2))) cs)∨(e=4∧g=.sl0∧fO (lK k) N (sK k+2+((dd l).map (·.1)).length) (dB k ((dd l).map (·.1))) (eS k N ((dd l).map (·.2))))):=by
 refine af.of_to kr ?_
 have s0:=aa.ini ht
 have hm0:ab X X:=ab.rfl
 have hL:=lM h8
 refine ag ?_
 obtain⟨_,s,J⟩:=cu s0 (.cells [iN N] true)
 refine ov 4 (J _ _ (vf (.ptr (n) (0)))) (ae 2 (ai 1 ?_))
 obtain⟨_,X1,n1,hc40,hm41,ht42,rfl⟩:=(xD h1 h8 s.topX:af 42 [vi k] X (n+1) _)
 obtain⟨_,hc44,s1⟩:=s.call hc40 hm41 ht42
 have hm0:=hm0.tr hm41
 have hr:=hr.mono eE.mono hm41
 refine ov 19 (jC hc44) (go 3 ?_)
 obtain⟨_,s2,J⟩:=cu s1 (.cells [.int .i64 0,.int .i64 0,.int .i64 0] true)
 refine ov 8 (J _ _ (vf (.ptr (n1) (0)))) ?_
 obtain⟨H,s3,J⟩:=dE (off:=0) (new:=[iN k,iN (sK k),.int .i64 2]) (cs':=[iN k,iN (sK k),.int .i64 2]) s2 0 rfl sm rfl
 have s3:aa X1 H (n1+1) [(n1,.cells [iN k,iN (sK k),.int .i64 2] true),(n,.cells [iN N] true)]:=s3
 refine oe (J _ _) (ae 1 (aP 1 (ov 23 (uF 0 0) (go 1 (ov 25 (am (off:=0) (x:=iN N) (s3.at 1 rfl) kr) (ov 26 (lF N 1) (go 2 (ov 29 (am (off:=0) (x:=iN N) (s3.at 1 rfl) kr) (ov 30 (gF N 64) (go 3 ?_))))))))))
 obtain⟨_,X2,n2,hc54,hm55,ht56,rfl⟩:=(t0 (g:=52) (caps:=[]) hr om kr (fun i p hp c Y m hc _ ht'=>by
  obtain⟨g,rfl,_⟩:=hc
  exact Hz (hok p (List.mem_of_getElem? hp)).2.1 ht') s3.topX:af 51 [vf (f),.u (.fn 52 [])] X1 (n1+1) _)
 obtain⟨H,hc58,s4⟩:=s3.call hc54 hm55 ht56
 have hm0:=hm0.tr hm55
 have hr:=hr.mono eE.mono hm55
 refine ov 34 (jC hc58) (ae 1 (ar (nx (aP 2 ?_))))
 obtain⟨_,_,n3,hc62,hm63,ht64,rfl⟩:=(t0 (g:=54) (caps:=[.ptr n 0]) (hr.mono eE.mono s4.mono) om kr (fun i p hp c Y m hc hm' ht'=>by
  obtain⟨g,rfl,hg⟩:=hc
  exact HH p.2 hg (hm' _ _ (s4.at 1 rfl)) (hok p (List.mem_of_getElem? hp)).2.2.1 ht') s4.top:af 51 [vf (f),.u (.fn 54 [.ptr (n) (0)])] H (n2) _)
 have s5:=s4.callH hc62 hm63 ht64
 refine ov 38 (jC hc62) (aj (ar (nx (ai 1 ?_))))
 obtain⟨_,X3,n4,hc68,hm69,ht70,rfl⟩:=(vH h1 h8 s5.topX:af 45 [vi k] X2 (n3) _)
 obtain⟨_,hc72,s6⟩:=s5.call hc68 hm69 ht70
 have hm0:=hm0.tr hm69
 have hr:=hr.mono eE.mono hm69
 refine ov 41 (jC hc72) (ae 5 (aP 1 (ov 45 (uF 0 0) (aj (ar (nx (ah 1 (ah 1 (ag ?_)))))))))
 obtain⟨_,s7,J⟩:=cu s6 (.mp [])
 refine ov 47 (J _ _ (vf (.map (n4)))) (ae 1 (aP 1 (ov 49 (lv l.length hr.lenA) ?_)))
 have hsz:dr (dd (l.take 0))=[]:=rfl
 refine ae 1 (bk 0 (To.loop kr (aC.for (l.length) (fun i A Hq nq=>∃(Y:Heap) (a:F) (fs:List F) (a2:F) (fs2:List F),aL A [(0,vi k),(4,vf (.ptr (n) (0))),(8,vf (.ptr (n1) (0))),(10,vf (.int .i64 0)),(11,vf (a)),(12,vf (a2)),(13,vf (.map (n4))),(48,vf (f)),(49,vi l.length),(50,vi i)]∧aa Y Hq nq ([(n4,.mp (dr (dd (l.take i)))),(n1,.cells [iN k,iN (sK k),.int .i64 2] true),(n,.cells [iN N] true)]++(a_ (a) (fs)++(a_ (a2) (fs2)++[])))∧(ab X Y)∧(lw Y f l)∧(bO 1 a fs)∧(fs=is ((dd (l.take i)).map (·.1)))∧(bO 1 a2 fs2)∧(aw (aB Y) fs2 ((dd (l.take i)).map (·.2)))) ⟨X3,.sl0,[],.sl0,[],az (ts:=[0,4,8,10,11,12,13,48,49,50]) kr,s7,(hm0),(hr),(bO.nil 1),(rfl),(bO.nil 1),(trivial)⟩ (fun i A H n5 hi hI=>?_) (fun A H n5 hI=>?_))))
 ·obtain⟨Y,a,fs,a2,fs2,hT,s8,hm0,hr,ha,hc,ha2,hc2⟩:=hI
  refine To.keep _ ?_ hT.sub
  have hx:l[i]?=some l[i]:=List.getElem?_eq_getElem hi
  obtain⟨⟨e,d⟩,hed⟩:∃x,x=l[i]:=⟨_,rfl⟩
  rw[←hed]at hx
  obtain⟨id,off,cap,all,ex,c,rfl,h2,h3,h4,g,rfl,hR⟩:=hr.at hx
  have hdl:=yX (l.take i)
  rw[List.length_take]at hdl
  have hl1:fs.length=(dd (l.take i)).length:=by rw[hc,dI,List.length_map]
  have hl2:fs2.length=(dd (l.take i)).length:=by rw[←hc2.length,List.length_map]
  have htk:l.take (i+1)=l.take i++[(e,d)]:=by rw[e_ hi,←hed]
  refine ag (ov 51 (lT i l.length) (aQ (aM (nx (aD 1 (ag (ov 52 (ix id off 2 l.length i) (ov 53 (aG (id:=id) (off:=off+i*2) (sz:=2) (c:=[iN e,g]) (s8.mono _ _ h2) h3 h4) ?_))))))))
  cases hany:(dd (l.take i)).any (fun q=>q.1 == e)
  ·have hnot:∀p∈dd (l.take i),p.1≠e:=fun p hp h=>by rw[List.any_eq_false]at hany;exact hany p hp (by simpa using h)
   have hfind:=vV (dd (l.take i)) e 0 hnot
   obtain⟨_,s9,J⟩:=cu s8 (.cells [.int .i64 0,.sl0] true)
   refine ov 15 (J _ _ (vf (.ptr (n5) (0)))) ?_
   obtain⟨H,s10,J⟩:=dE (off:=0) (new:=[iN e,g]) (cs':=[iN e,g]) s9 0 rfl sm rfl
   have s10:aa Y H (n5+1) ([(n5,.cells [iN e,g] true),(n4,.mp (dr (dd (l.take i)))),(n1,.cells [iN k,iN (sK k),.int .i64 2] true),(n,.cells [iN N] true)]++(a_ (a) (fs)++(a_ (a2) (fs2)++[]))):=s10
   refine oe (J _ _) (aj (ai 2 (ov 56 (am (off:=0) (x:=iN e) (s10.at 0 rfl) kr) (ov 57 (GA (z:=.f (.bool false)) (s10.at 1 rfl) hfind) (ae 1 (iT (ai 2 (ov 61 (am (off:=0) (x:=iN e) (s10.at 0 rfl) kr) ?_))))))))
   obtain⟨H,s11,J⟩:=HL (v:=.f (.bool true)) s10 1 rfl hfind
   have s11:aa Y H (n5+1) ([(n5,.cells [iN e,g] true),(n4,.mp (dr (dd (l.take i)++[(e,d)]))),(n1,.cells [iN k,iN (sK k),.int .i64 2] true),(n,.cells [iN N] true)]++(a_ (a) (fs)++(a_ (a2) (fs2)++[]))):=by rw[CP];exact s11
   refine oe (J _ _) (aj (To.draw [0,1,2,3,4,5,6,7,8,9,10,11] cX kr kr (Sd.go (L:=[2,3,4,5,6,7,8,9,10,11]) [0,1] kr (Sd.read (some 64) (n5) kr kr kr trivial (am (off:=0) (x:=iN e) (s11.at 0 rfl) kr kr) ?_))))
   obtain⟨_,_,s12,m1,f1,J⟩:=bj s11 (.cells [iN e] true)
   have hm0:=hm0.tr m1
   have hr:=hr.mono eE.mono m1
   have hc2:=hc2.mono fun _ _ q=>q.mono m1
   have hR:=hR.mono m1
   refine Sd.eff (some 65) kr kr (J _ _ (vf (.sl (n5+1) (0) 1 (1) none)) kr) ⟨.inl kr,trivial⟩ ?_
   obtain⟨a1,_,n6,ha98,s13,J⟩:=eW (sz:=1) (bytes:=8) (x:=.sl (n5+1) (0) 1 (1) none) (fs:=fs) (new:=[iN e]) (M1:=[(n5,.cells [iN e,g] true),(n4,.mp (dr (dd (l.take i)++[(e,d)]))),(n1,.cells [iN k,iN (sK k),.int .i64 2] true),(n,.cells [iN N] true)]) (M2:=(a_ (a2) (fs2)++[])) s12 ha (bf (s12.mono _ _ f1) rfl) (rfl) om om
   refine Sd.eff (some 66) kr kr (J _ _ kr) ⟨.inl kr,trivial⟩ (Sd.go (L:=[7,8,9,10,11]) [5,6] kr (Sd.read (some 69) (n5) kr kr kr ⟨ke (s12.at 0 rfl) (s13.at 0 rfl),ke (s11.at 0 rfl) (s12.at 0 rfl),trivial⟩ (am (off:=1) (x:=g) (s13.at 0 rfl) kr kr) ?_))
   obtain⟨X4,_,s14,m2,f2,J⟩:=bj s13 (.cells [g] true)
   have f3:=m2 _ _ f1
   have hm0:=hm0.tr m2
   have hr:=hr.mono eE.mono m2
   have hc2:=hc2.mono fun _ _ q=>q.mono m2
   have hR:=hR.mono m2
   refine Sd.eff (some 70) kr kr (J _ _ (vf (.sl (n6) (0) 1 (1) none)) kr) ⟨.inl kr,ke (s13.at 0 rfl) (s14.at 0 rfl),trivial⟩ ?_
   obtain⟨a3,H,n7,ha111,s15,J⟩:=eW (sz:=1) (bytes:=24) (x:=.sl (n6) (0) 1 (1) none) (fs:=fs2) (new:=[g]) (M1:=([(n5,.cells [iN e,g] true),(n4,.mp (dr (dd (l.take i)++[(e,d)]))),(n1,.cells [iN k,iN (sK k),.int .i64 2] true),(n,.cells [iN N] true)]++a_ (a1) ((fs++[iN e])))) (M2:=[]) (by simpa using s14) ha2 (bf (s14.mono _ _ f2) rfl) (rfl) om om
   have s15:aa X4 H n7 ([(n5,.cells [iN e,g] true),(n4,.mp (dr (dd (l.take i)++[(e,d)]))),(n1,.cells [iN k,iN (sK k),.int .i64 2] true),(n,.cells [iN N] true)]++(a_ (a1) ((fs++[iN e]))++(a_ (a3) ((fs2++[g]))++[]))):=by simpa using s15
   refine Sd.eff (some 71) kr kr (J _ _ kr) ⟨.inl kr,.inl kr,trivial⟩ ?_
   have hdd:dd (l.take (i+1))=dd (l.take i)++[(e,d)]:=by rw[htk,yv,if_neg (by rw[hany];simp)]
   refine Sd.go (L:=[]) [10,11] kr (Sd.done ?_)
   show To Tryz.prog 31 [1,1,1,0,0,1,0,1,1,1,1,1,1,1,1,1] _ _ _ _
   refine rg (ov 72 (aN i 1) (aR 1 ?_))
   exact .inl ⟨rfl,X4,_,_,_,_,az (ts:=[0,4,8,10,11,12,13,48,49,50]) kr,(by rw[hdd];exact s15.del 0),(hm0),(hr),(ha98),(by rw[hdd,List.map_append,hc];exact(li _ _).symm),(ha111),(by rw[hdd,List.map_append];exact hc2.snoc hR)⟩
  ·have hfind0:=u9 (dd (l.take i)) e 0 (by rw[List.any_eq_true]at hany;obtain⟨p,hp,he⟩:=hany;exact⟨p,hp,by simpa using he⟩)
   obtain⟨jf,hfind⟩:=hfind0
   obtain⟨_,s16,J⟩:=cu s8 (.cells [.int .i64 0,.sl0] true)
   refine ov 15 (J _ _ (vf (.ptr (n5) (0)))) ?_
   obtain⟨H,s17,J⟩:=dE (off:=0) (new:=[iN e,g]) (cs':=[iN e,g]) s16 0 rfl sm rfl
   have s17:aa Y H (n5+1) ([(n5,.cells [iN e,g] true),(n4,.mp (dr (dd (l.take i)))),(n1,.cells [iN k,iN (sK k),.int .i64 2] true),(n,.cells [iN N] true)]++(a_ (a) (fs)++(a_ (a2) (fs2)++[]))):=s17
   refine oe (J _ _) (aj (ai 2 (ov 56 (am (off:=0) (x:=iN e) (s17.at 0 rfl) kr) (ov 57 (Gy (z:=.f (.bool false)) (s17.at 1 rfl) hfind) ?_))))
   have hdd:dd (l.take (i+1))=dd (l.take i):=by rw[htk,yv,if_pos hany]
   refine ae 1 (ar (nx (rg (ov 72 (aN i 1) (aR 1 ?_)))))
   exact .inl ⟨rfl,Y,_,_,_,_,az (ts:=[0,4,8,10,11,12,13,48,49,50]) kr,(by rw[hdd];exact s17.del 0),(hm0),(hr),(ha),(by rw[hdd];exact hc),(ha2),(by rw[hdd];exact hc2)⟩
 ·obtain⟨Y,a,fs,a2,fs2,hT,s18,hm0,hr,ha,hc,ha2,hc2⟩:=hI
  refine To.keep _ ?_ hT.sub
  refine ag (ov 51 (au (cr .i64 (x:=(((l.length):Nat):Int)) (y:=((l.length:Nat):Int)) sm)) (aj ?_))
  rw[List.take_length]at hc hc2
  obtain⟨X5,m3,s19,hrow2,hrow2k⟩:=aa.acc (sz:=1) (M1:=([(n4,.mp (dr (dd (l.take (l.length))))),(n1,.cells [iN k,iN (sK k),.int .i64 2] true),(n,.cells [iN N] true)]++a_ (a) (fs))) (M2:=[]) (a:=a2) (fs:=fs2) (by simpa using s18) ha2
  have hm0:=hm0.tr m3
  have hc2:=hc2.mono fun _ _ q=>q.mono m3
  have s19:aa X5 H (n5) ([(n4,.mp (dr (dd (l.take (l.length))))),(n1,.cells [iN k,iN (sK k),.int .i64 2] true),(n,.cells [iN N] true)]++(a_ (a) (fs)++[])):=by simpa using s19
  obtain⟨X6,m4,s20,hrow,hrowk⟩:=aa.acc (sz:=1) (M1:=[(n4,.mp (dr (dd (l.take (l.length))))),(n1,.cells [iN k,iN (sK k),.int .i64 2] true),(n,.cells [iN N] true)]) (M2:=[]) (a:=a) (fs:=fs) (by simpa using s19) ha
  have hm0:=hm0.tr m4
  have hc2:=hc2.mono fun _ _ q=>q.mono m4
  have hrow2:=aO m4 hrow2
  have s20:aa X6 H (n5) [(n4,.mp (dr (dd (l.take (l.length))))),(n1,.cells [iN k,iN (sK k),.int .i64 2] true),(n,.cells [iN N] true)]:=by simpa using s20
  have hdl:=yX l
  refine sq (iF (To.exit 0 kr ?_))
  refine⟨sm,?_⟩
  show To Tryz.prog 31 [1,1,1,1,1,1,1,1,1,1] _ _ _ _
  refine ag (ov 74 (la 0 3 [iN k,iN (sK k),.int .i64 2] (s20.at 1 rfl)) (go 1 (ov 76 (am (off:=0) (x:=iN N) (s20.at 2 rfl) kr) (go 2 ?_))))
  obtain⟨_,X7,n8,hc129,hm130,ht131,⟨z,ee,rfl,hz⟩⟩:=(uE (k:=k) (N:=N) ((dd l).map (·.1)) ((dd l).map (·.2)) h1 h8 (by rw[hc]at hrow;exact hrow) (fun e he=>by obtain⟨p,hp,rfl⟩:=List.mem_map.1 he;exact(hok p (pD hp)).1) (by simp;omega) ⟨_,hrow2,hc2⟩ (mZ fun p hp=>(hok p hp).2.2) hN0 om s20.topX:af 46 [.u (.agg [iN k,iN (sK k),.int .i64 2]),vf (.int .i64 0),vi N,vf (a),vf (a2)] X6 (n5) _)
  obtain⟨_,hc133,s21⟩:=s20.call hc129 hm130 ht131
  have hm0:=hm0.tr hm130
  refine ov 79 (jC hc133) ?_
  rcases hz with⟨rfl,cs,hcs,hz⟩|⟨rfl,rfl,hz⟩
  ·refine ae 5 (aP 1 (ov 83 (uF 0 0) (aj (ar (nx (sq (To.draw [4,5,0,1,2,3,6,7,8] cX kr kr (Sd.go (L:=[5,0,1,2,3,6,7,8]) [4] kr ?_))))))))
   obtain⟨_,X8,n9,hc137,hm138,ht139,⟨sg,rfl,hsg⟩⟩:=(uo h1 h8 s21.topX:af 47 [vi k] X7 (n8) _)
   obtain⟨_,hc141,s22⟩:=s21.call hc137 hm138 ht139
   have hm0:=hm0.tr hm138
   have hcs:=hcs.mono hm138
   refine Sd.eff (some 90) kr kr (b_ kr hc141 kr) trivial ?_
   have hcm:=hz.mx (lh (k:=k) (mZ fun p hp=>(hok p hp).2.2))
   refine Sd.read (some 85) (n1) kr kr kr ⟨ke (s21.at 1 rfl) (s22.at 1 rfl),trivial⟩ (aG (off:=0) (sz:=3) (c:=[iN k,iN (sK k),.int .i64 2]) (s22.at 1 rfl) sm rfl kr) (Sd.go (L:=[2,3,6,7,8]) [1] kr (Sd.read (some 87) (n) kr kr kr ⟨ke (s21.at 2 rfl) (s22.at 2 rfl),trivial⟩ (am (off:=0) (x:=iN N) (s22.at 2 rfl) kr kr) (Sd.go (L:=[6,7,8]) [3] kr ?_)))
   obtain⟨_,X9,_,hc145,hm146,ht147,⟨y,rfl,hy⟩⟩:=(Ch cs (List.range k) h1 h8 (fun e he=>oL h1 h8 (by have:=List.mem_range.1 he;omega)) (by simp;omega) hcs hsg ⟨hcm.1,hcm.2⟩ hN0 hN s22.topX:af 55 [.u (.agg [iN k,iN (sK k),.int .i64 2]),vf (.int .i64 0),vi N,vf (z),vf (sg)] X8 (n9) _)
   obtain⟨_,hc149,s23⟩:=s22.call hc145 hm146 ht147
   have hm0:=hm0.tr hm146
   refine Sd.eff (some 91) kr kr (b_ kr hc149 kr) ⟨.inl kr,.inl kr,trivial⟩ (Sd.go (L:=[]) [7,8] kr (Sd.done ?_))
   show To Tryz.prog 31 [1,1,1,1,1,1,1,1,1,1,1,1,1] _ _ _ _
   refine rt ?_
   exact⟨.inr rfl,_,kr,X9,_,s23,hm0,_,_,rfl,.inl ⟨rfl,cs,hy,hz⟩⟩
  ·refine ae 5 (aP 1 (ov 83 (uT 4 0) (aj (iT (ah 3 (rt ?_))))))
   exact⟨.inr rfl,_,kr,X7,_,s21,hm0,_,_,rfl,.inr ⟨rfl,rfl,hz⟩⟩
end Go.Proofs.YtkimkgbppegkhaaGreat.Cm
