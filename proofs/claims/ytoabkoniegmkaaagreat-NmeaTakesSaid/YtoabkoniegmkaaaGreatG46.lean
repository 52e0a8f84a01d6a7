/- The contract of the reference's Take of layer 22, way by way. -/
import Derived.Test.YtoabkoniegmkaaaGreatG45
import Derived.Test.YtoabkoniegmkaaaGreatG44
namespace Go.Proofs.YtoabkoniegmkaaaGreat
set_option linter.unusedVariables false
open Go.RowKit
set_option maxHeartbeats 1000000 in
theorem r22Take_empty (w:World):Calls Tryz.prog 31 #[.string ByteArray.empty] w (SenPost ((ByteArray.empty,ByteArray.empty,[]),0,2) w):=by
  go_enter Tryz.func31,Tryz.ntmps31
  go_wp2
  exact bodyPost_ret (v:=.tuple #[.agg #[.string ⟨#[]⟩,.string ⟨#[]⟩,.slice none 0 0],.int .i64 0,.int .i64 2]) (by simp [results,Tryz.results31,go_sem]) rfl (SenPost.err 2 (below_new _ _))
set_option maxHeartbeats 1000000 in
theorem r22Take_first (t:ByteArray) (w:World) (hz:0 < t.size) (h1:t.toList.isEmpty=false) (h2:(t.toList==[])=false) (hc:(((t[0]'hz).toNat:Int) != 36)=true):Calls Tryz.prog 31 #[.string t] w (SenPost ((ByteArray.empty,ByteArray.empty,[]),0,3) w):=by
  go_enter Tryz.func31,Tryz.ntmps31
  go_wp2
  exact bodyPost_ret (v:=.tuple #[.agg #[.string ⟨#[]⟩,.string ⟨#[]⟩,.slice none 0 0],.int .i64 0,.int .i64 3]) (by simp [results,Tryz.results31,go_sem]) rfl (SenPost.err 3 (below_new _ _))
set_option maxHeartbeats 1000000 in
theorem r22Take_end (t:ByteArray) (i:Nat) (n:Int) (w:World) (hm:t.size≤1000000) (hz:0 < t.size) (h1:t.toList.isEmpty=false) (h2:(t.toList==[])=false) (hc:(((t[0]'hz).toNat:Int) != 36)=false) (he:Hid (endE t=(i,n))) (hn:(n != 0)=true) :
    Calls Tryz.prog 31 #[.string t] w (SenPost ((ByteArray.empty,ByteArray.empty,[]),0,n) w):=by
  go_enter Tryz.func31,Tryz.ntmps31
  go_wp2_with fail
  refine (r22end_any t _ hm).mono ?_
  rintro e w' ⟨rfl,rfl⟩
  rw [he.out]
  go_wp2_with fail
  exact bodyPost_ret (v:=.tuple #[.agg #[.string ⟨#[]⟩,.string ⟨#[]⟩,.slice none 0 0],.int .i64 0,.int .i64 n]) (by simp [results,Tryz.results31,go_sem]) rfl (SenPost.err n (below_new _ _))
set_option maxHeartbeats 1000000 in
theorem r22Take_short (t:ByteArray) (i:Nat) (w:World) (hm:t.size≤1000000) (hz:0 < t.size) (h1:t.toList.isEmpty=false) (h2:(t.toList==[])=false) (hc:(((t[0]'hz).toNat:Int) != 36)=false) (he:Hid (endE t=(i,0))) (hi80:i≤80) (hs:t.size≤i+1) :
    Calls Tryz.prog 31 #[.string t] w (SenPost ((ByteArray.empty,ByteArray.empty,[]),0,2) w):=by
  go_enter Tryz.func31,Tryz.ntmps31
  go_wp2_with fail
  refine (r22end_any t _ hm).mono ?_
  rintro e w' ⟨rfl,rfl⟩
  rw [he.out]
  go_wp2_with fail
  exact bodyPost_ret (v:=.tuple #[.agg #[.string ⟨#[]⟩,.string ⟨#[]⟩,.slice none 0 0],.int .i64 0,.int .i64 2]) (by simp [results,Tryz.results31,go_sem]) rfl (SenPost.err 2 (below_new _ _))
set_option maxHeartbeats 2000000 in
theorem r22Take_ten (t L:ByteArray) (i n:Nat) (w:World) (hm:t.size≤1000000) (hz:0 < t.size) (h1:t.toList.isEmpty=false) (h2:(t.toList==[])=false) (hc:(((t[0]'hz).toNat:Int) != 36)=false) (he:Hid (endE t=(i,0))) (hL:Hid (t.extract 1 i=L)) (hi:1≤i) (hl0:L.size+1≤i) (hl1:i≤L.size+1) (hi80:i≤80) (hs:i+2≤t.size) (ht:(((t[i+1]'(by omega)).toNat:Int) != 10)=true) :
    Calls Tryz.prog 31 #[.string t] w (SenPost ((ByteArray.empty,ByteArray.empty,[]),0,3) w):=by
  have eL:t.extract 1 i=L:=hL.out
  go_enter Tryz.func31,Tryz.ntmps31
  go_wp2_with fail
  refine (r22end_any t _ hm).mono ?_
  rintro e w' ⟨rfl,rfl⟩
  rw [he.out]
  go_wp2_with fail
  exact bodyPost_ret (v:=.tuple #[.agg #[.string ⟨#[]⟩,.string ⟨#[]⟩,.slice none 0 0],.int .i64 0,.int .i64 3]) (by simp [results,Tryz.results31,go_sem]) rfl (SenPost.err 3 (below_new _ _))
set_option maxHeartbeats 2000000 in
theorem r22Take_few (t L:ByteArray) (i n:Nat) (w:World) (hm:t.size≤1000000) (hz:0 < t.size) (h1:t.toList.isEmpty=false) (h2:(t.toList==[])=false) (hc:(((t[0]'hz).toNat:Int) != 36)=false) (he:Hid (endE t=(i,0))) (hL:Hid (t.extract 1 i=L)) (hi:1≤i) (hl0:L.size+1≤i) (hl1:i≤L.size+1) (hi80:i≤80) (hs:i+2≤t.size) (ht:(((t[i+1]'(by omega)).toNat:Int) != 10)=false) (h8:L.size < 8) :
    Calls Tryz.prog 31 #[.string t] w (SenPost ((ByteArray.empty,ByteArray.empty,[]),0,3) w):=by
  have eL:t.extract 1 i=L:=hL.out
  go_enter Tryz.func31,Tryz.ntmps31
  go_wp2_with fail
  refine (r22end_any t _ hm).mono ?_
  rintro e w' ⟨rfl,rfl⟩
  rw [he.out]
  go_wp2_with fail
  exact bodyPost_ret (v:=.tuple #[.agg #[.string ⟨#[]⟩,.string ⟨#[]⟩,.slice none 0 0],.int .i64 0,.int .i64 3]) (by simp [results,Tryz.results31,go_sem]) rfl (SenPost.err 3 (below_new _ _))
set_option maxHeartbeats 2000000 in
theorem r22Take_star (t L:ByteArray) (i n:Nat) (w:World) (hm:t.size≤1000000) (hz:0 < t.size) (h1:t.toList.isEmpty=false) (h2:(t.toList==[])=false) (hc:(((t[0]'hz).toNat:Int) != 36)=false) (he:Hid (endE t=(i,0))) (hL:Hid (t.extract 1 i=L)) (hi:1≤i) (hl0:L.size+1≤i) (hl1:i≤L.size+1) (hi80:i≤80) (hs:i+2≤t.size) (ht:(((t[i+1]'(by omega)).toNat:Int) != 10)=false)(hn0:n+3≤L.size) (hn1:L.size≤n+3) (e1:(L.size:Int) - 3=(n:Int)) (h5:5≤n)(hst:(((L[n]'(by omega)).toNat:Int) != 42)=true) :
    Calls Tryz.prog 31 #[.string t] w (SenPost ((ByteArray.empty,ByteArray.empty,[]),0,3) w):=by
  have eL:t.extract 1 i=L:=hL.out
  go_enter Tryz.func31,Tryz.ntmps31
  go_wp2_with fail
  refine (r22end_any t _ hm).mono ?_
  rintro e w' ⟨rfl,rfl⟩
  rw [he.out]
  go_wp2_with fail
  exact bodyPost_ret (v:=.tuple #[.agg #[.string ⟨#[]⟩,.string ⟨#[]⟩,.slice none 0 0],.int .i64 0,.int .i64 3]) (by simp [results,Tryz.results31,go_sem]) rfl (SenPost.err 3 (below_new _ _))
set_option maxHeartbeats 2000000 in
theorem r22Take_stars (t L:ByteArray) (i n:Nat) (w:World) (hm:t.size≤1000000) (hz:0 < t.size) (h1:t.toList.isEmpty=false) (h2:(t.toList==[])=false) (hc:(((t[0]'hz).toNat:Int) != 36)=false) (he:Hid (endE t=(i,0))) (hL:Hid (t.extract 1 i=L)) (hi:1≤i) (hl0:L.size+1≤i) (hl1:i≤L.size+1) (hi80:i≤80) (hs:i+2≤t.size) (ht:(((t[i+1]'(by omega)).toNat:Int) != 10)=false)(hn0:n+3≤L.size) (hn1:L.size≤n+3) (e1:(L.size:Int) - 3=(n:Int)) (h5:5≤n)(hst:(((L[n]'(by omega)).toNat:Int) != 42)=false) (k:Nat) (hs1:Hid (starsN L.data.toList=k)) (hk:((k:Int) != 1)=true) :
    Calls Tryz.prog 31 #[.string t] w (SenPost ((ByteArray.empty,ByteArray.empty,[]),0,3) w):=by
  have eL:t.extract 1 i=L:=hL.out
  go_enter Tryz.func31,Tryz.ntmps31
  go_wp2_with fail
  refine (r22end_any t _ hm).mono ?_
  rintro e w' ⟨rfl,rfl⟩
  rw [he.out]
  go_wp2_with fail
  refine (r22stars_any L _ (by omega)).mono ?_
  rintro e w' ⟨rfl,rfl⟩
  rw [hs1.out]
  go_wp2_with fail
  exact bodyPost_ret (v:=.tuple #[.agg #[.string ⟨#[]⟩,.string ⟨#[]⟩,.slice none 0 0],.int .i64 0,.int .i64 3]) (by simp [results,Tryz.results31,go_sem]) rfl (SenPost.err 3 (below_new _ _))
set_option maxHeartbeats 2000000 in
theorem r22Take_signs (t L:ByteArray) (i n:Nat) (w:World) (hm:t.size≤1000000) (hz:0 < t.size) (h1:t.toList.isEmpty=false) (h2:(t.toList==[])=false) (hc:(((t[0]'hz).toNat:Int) != 36)=false) (he:Hid (endE t=(i,0))) (hL:Hid (t.extract 1 i=L)) (hi:1≤i) (hl0:L.size+1≤i) (hl1:i≤L.size+1) (hi80:i≤80) (hs:i+2≤t.size) (ht:(((t[i+1]'(by omega)).toNat:Int) != 10)=false)(hn0:n+3≤L.size) (hn1:L.size≤n+3) (e1:(L.size:Int) - 3=(n:Int)) (h5:5≤n)(hst:(((L[n]'(by omega)).toNat:Int) != 42)=false) (hs1:Hid (starsN L.data.toList=1)) (hsg:Hid (signsP (L.extract 0 5) 5=false)) :
    Calls Tryz.prog 31 #[.string t] w (SenPost ((ByteArray.empty,ByteArray.empty,[]),0,3) w):=by
  have eL:t.extract 1 i=L:=hL.out
  go_enter Tryz.func31,Tryz.ntmps31
  go_wp2_with fail
  refine (r22end_any t _ hm).mono ?_
  rintro e w' ⟨rfl,rfl⟩
  rw [he.out]
  go_wp2_with fail
  refine (r22stars_any L _ (by omega)).mono ?_
  rintro e w' ⟨rfl,rfl⟩
  rw [hs1.out]
  go_wp2_with fail
  refine (r22Signs_any (L.extract 0 5) 5 _ (by rw [ByteArray.size_extract];omega)).mono ?_
  rintro e w' ⟨rfl,rfl⟩
  rw [hsg.out]
  go_wp2_with fail
  exact bodyPost_ret (v:=.tuple #[.agg #[.string ⟨#[]⟩,.string ⟨#[]⟩,.slice none 0 0],.int .i64 0,.int .i64 3]) (by simp [results,Tryz.results31,go_sem]) rfl (SenPost.err 3 (below_new _ _))
set_option maxHeartbeats 2000000 in
theorem r22Take_comma (t L:ByteArray) (i n:Nat) (w:World) (hm:t.size≤1000000) (hz:0 < t.size) (h1:t.toList.isEmpty=false) (h2:(t.toList==[])=false) (hc:(((t[0]'hz).toNat:Int) != 36)=false) (he:Hid (endE t=(i,0))) (hL:Hid (t.extract 1 i=L)) (hi:1≤i) (hl0:L.size+1≤i) (hl1:i≤L.size+1) (hi80:i≤80) (hs:i+2≤t.size) (ht:(((t[i+1]'(by omega)).toNat:Int) != 10)=false)(hn0:n+3≤L.size) (hn1:L.size≤n+3) (e1:(L.size:Int) - 3=(n:Int)) (h5:5≤n)(hst:(((L[n]'(by omega)).toNat:Int) != 42)=false) (hs1:Hid (starsN L.data.toList=1)) (hsg:Hid (signsP (L.extract 0 5) 5=true)) (h6:6≤n) (hcm:(((L[5]'(by omega)).toNat:Int) != 44)=true) :
    Calls Tryz.prog 31 #[.string t] w (SenPost ((ByteArray.empty,ByteArray.empty,[]),0,3) w):=by
  have eL:t.extract 1 i=L:=hL.out
  go_enter Tryz.func31,Tryz.ntmps31
  go_wp2_with fail
  refine (r22end_any t _ hm).mono ?_
  rintro e w' ⟨rfl,rfl⟩
  rw [he.out]
  go_wp2_with fail
  refine (r22stars_any L _ (by omega)).mono ?_
  rintro e w' ⟨rfl,rfl⟩
  rw [hs1.out]
  go_wp2_with fail
  refine (r22Signs_any (L.extract 0 5) 5 _ (by rw [ByteArray.size_extract];omega)).mono ?_
  rintro e w' ⟨rfl,rfl⟩
  rw [hsg.out]
  go_wp2_with fail
  exact bodyPost_ret (v:=.tuple #[.agg #[.string ⟨#[]⟩,.string ⟨#[]⟩,.slice none 0 0],.int .i64 0,.int .i64 3]) (by simp [results,Tryz.results31,go_sem]) rfl (SenPost.err 3 (below_new _ _))
set_option maxHeartbeats 2000000 in
theorem r22Take_unhex (t L:ByteArray) (i n:Nat) (w:World) (hm:t.size≤1000000) (hz:0 < t.size) (h1:t.toList.isEmpty=false) (h2:(t.toList==[])=false) (hc:(((t[0]'hz).toNat:Int) != 36)=false) (he:Hid (endE t=(i,0))) (hL:Hid (t.extract 1 i=L)) (hi:1≤i) (hl0:L.size+1≤i) (hl1:i≤L.size+1) (hi80:i≤80) (hs:i+2≤t.size) (ht:(((t[i+1]'(by omega)).toNat:Int) != 10)=false)(hn0:n+3≤L.size) (hn1:L.size≤n+3) (e1:(L.size:Int) - 3=(n:Int)) (h5:5≤n)(hst:(((L[n]'(by omega)).toNat:Int) != 42)=false) (hs1:Hid (starsN L.data.toList=1)) (hsg:Hid (signsP (L.extract 0 5) 5=true)) (hcm:n≤5∨5 < n∧(((L[5]'(by omega)).toNat:Int) != 44)=false) (hu:Hid (unhexL (L.extract (n+1) L.size).data.toList=none)) :
    Calls Tryz.prog 31 #[.string t] w (SenPost ((ByteArray.empty,ByteArray.empty,[]),0,3) w):=by
  have eL:t.extract 1 i=L:=hL.out
  rcases hcm with hcm | ⟨hcm,hcc⟩
  all_goals
    go_enter Tryz.func31,Tryz.ntmps31
    go_wp2_with fail
    refine (r22end_any t _ hm).mono ?_
    rintro e w' ⟨rfl,rfl⟩
    rw [he.out]
    go_wp2_with fail
    refine (r22stars_any L _ (by omega)).mono ?_
    rintro e w' ⟨rfl,rfl⟩
    rw [hs1.out]
    go_wp2_with fail
    refine (r22Signs_any (L.extract 0 5) 5 _ (by rw [ByteArray.size_extract];omega)).mono ?_
    rintro e w' ⟨rfl,rfl⟩
    rw [hsg.out]
    go_wp2_with fail
    refine (r07Unhex_none _ _ hu.out).mono ?_
    rintro e w' ⟨rfl,rfl⟩
    go_wp2_with fail
    exact bodyPost_ret (v:=.tuple #[.agg #[.string ⟨#[]⟩,.string ⟨#[]⟩,.slice none 0 0],.int .i64 0,.int .i64 3]) (by simp [results,Tryz.results31,go_sem]) rfl (SenPost.err 3 (below_new _ _))
set_option maxHeartbeats 2000000 in
theorem r22Take_sum (t L:ByteArray) (i n:Nat) (w:World) (hm:t.size≤1000000) (hz:0 < t.size) (h1:t.toList.isEmpty=false) (h2:(t.toList==[])=false) (hc:(((t[0]'hz).toNat:Int) != 36)=false) (he:Hid (endE t=(i,0))) (hL:Hid (t.extract 1 i=L)) (hi:1≤i) (hl0:L.size+1≤i) (hl1:i≤L.size+1) (hi80:i≤80) (hs:i+2≤t.size) (ht:(((t[i+1]'(by omega)).toNat:Int) != 10)=false)(hn0:n+3≤L.size) (hn1:L.size≤n+3) (e1:(L.size:Int) - 3=(n:Int)) (h5:5≤n)(hst:(((L[n]'(by omega)).toNat:Int) != 42)=false) (hs1:Hid (starsN L.data.toList=1)) (hsg:Hid (signsP (L.extract 0 5) 5=true)) (hcm:n≤5∨5 < n∧(((L[5]'(by omega)).toNat:Int) != 44)=false) (v:Int) (hu:Hid (unhexL (L.extract (n+1) L.size).data.toList=some v)) (hv:(v != sumI (L.extract 0 n))=true) :
    Calls Tryz.prog 31 #[.string t] w (SenPost ((ByteArray.empty,ByteArray.empty,[]),0,4) w):=by
  have eL:t.extract 1 i=L:=hL.out
  rcases hcm with hcm | ⟨hcm,hcc⟩
  all_goals
    go_enter Tryz.func31,Tryz.ntmps31
    go_wp2_with fail
    refine (r22end_any t _ hm).mono ?_
    rintro e w' ⟨rfl,rfl⟩
    rw [he.out]
    go_wp2_with fail
    refine (r22stars_any L _ (by omega)).mono ?_
    rintro e w' ⟨rfl,rfl⟩
    rw [hs1.out]
    go_wp2_with fail
    refine (r22Signs_any (L.extract 0 5) 5 _ (by rw [ByteArray.size_extract];omega)).mono ?_
    rintro e w' ⟨rfl,rfl⟩
    rw [hsg.out]
    go_wp2_with fail
    refine (r07Unhex_some _ v _ hu.out).mono ?_
    rintro e w' ⟨rfl,rfl⟩
    go_wp2_with fail
    refine (r07Of_any _ _ (by rw [ByteArray.size_extract];omega)).mono ?_
    rintro e w' ⟨rfl,rfl⟩
    go_wp2_with fail
    exact bodyPost_ret (v:=.tuple #[.agg #[.string ⟨#[]⟩,.string ⟨#[]⟩,.slice none 0 0],.int .i64 0,.int .i64 4]) (by simp [results,Tryz.results31,go_sem]) rfl (SenPost.err 4 (below_new _ _))
end Go.Proofs.YtoabkoniegmkaaaGreat
