/- The seat's ground for open walks: what is kept ahead of each region. No condition. -/
import Derived.Test.YthhdhbalenanjaaGreatChecked
import Derived.Test.YthhdhbalenanjaaGreatGt
namespace Go.Proofs.Tryz.Op
open Go Go.Pg
def XF{α:Type}:List (Nat×α)→Nat→Option α
 | [],_=>none
 | (k,x) :: r,i=>cond (Nat.beq k i) (some x) (XF r i)
noncomputable def an5:List (Nat×List Nat×List Nat):=[(1002000,[0],[1]),(2001000,[0],[]),(3003001,[0,1,2],[1,2])]
noncomputable def an6:List (Nat×List Nat×List Nat):=[(2001000,[0,1],[]),(2003000,[0,1],[2,3]),(3004001,[0,1],[]),(5002001,[2,3],[2,3])]
noncomputable def an8:List (Nat×List Nat×List Nat):=[(1002000,[0],[]),(2002000,[0,1],[]),(3001000,[0,1],[]),(3006001,[1,2],[1,2]),(4005001,[0,1,2],[2])]
noncomputable def an9:List (Nat×List Nat×List Nat):=[(2002000,[0,1],[2]),(3002000,[0,1,2],[3]),(4001000,[0,1],[7]),(5005001,[0,1,2,3],[2,3])]
noncomputable def AMT:List (Nat×List Nat×List Nat):=[(1002000,[0],[1,7,910,911]),(2002000,[0,1],[2]),(3001000,[0,1],[]),(3004000,[0,1,2],[3,4,5]),(3009001,[1],[1]),(5005001,[0,1],[]),(5007001,[1,2],[2]),(6007001,[1],[1,7,910,911]),(7005001,[3,4,5],[3,4,5]),(9002002,[0,1,4],[]),(10002002,[4],[]),(10002003,[4],[])]
noncomputable def AMU:List (Nat×List Nat×List Nat):=[(2001000,[0],[]),(3002001,[0],[]),(4009002,[0,3],[3])]
noncomputable def AMV:List (Nat×List Nat×List Nat):=[(3001000,[0,1,2],[3,4,5,9]),(4010001,[0,1],[]),(5001002,[1,2,3,4],[3,4,5,9]),(6006001,[1,2,3],[3,4,5,9]),(10002003,[1,2,3,4,5],[3,4,5,9]),(11002004,[5],[3,4,5,9])]
noncomputable def AMW:List (Nat×List Nat×List Nat):=[(2003000,[0,1],[2]),(5010001,[1,2,3,4],[2,3,4])]
noncomputable def AMX:List (Nat×List Nat×List Nat):=[(2002000,[0,1],[]),(5011001,[1,2,4],[2,4]),(6001000,[0,1,2],[]),(7009001,[0,1,2],[])]
noncomputable def AMY:List (Nat×List Nat×List Nat):=[(2002000,[0,1],[2]),(5012001,[1,2],[2])]
noncomputable def AMZ:List (Nat×List Nat×List Nat):=[(4001000,[0,1],[]),(4001005,[],[]),(4001006,[],[]),(5001001,[0,1],[]),(6004002,[0,1,5],[]),(10003003,[0,1,5],[]),(12006004,[0,1,5],[])]
noncomputable def AM0:List (Nat×List Nat×List Nat):=[(2001000,[0],[]),(2003000,[0,1],[2]),(3001001,[0],[]),(4001000,[0,1],[]),(4001002,[0,3],[]),(4001005,[],[]),(4001006,[],[]),(4001007,[],[]),(4003000,[0,1,2,3],[4]),(5001001,[0,1],[]),(5004003,[0,3,4],[]),(5015001,[2,3],[2,3]),(6003001,[0,1],[]),(6004002,[0,1,5],[]),(9001002,[0,1,7,8],[]),(9003004,[0,3,4],[]),(9011001,[2,3,4,5],[4,5]),(10002003,[0,1,7,8],[]),(10003003,[0,1,5],[]),(11006004,[0,1,5,7,8],[]),(11008005,[0,3,4],[]),(12007004,[0,1,5],[]),(17002005,[5],[]),(18002006,[0,1,3,7,8],[])]
noncomputable def BAS:List (Nat×List Nat×List Nat):=[(2001000,[0],[]),(3001001,[0],[]),(4001002,[0,3],[18]),(5004003,[0,3,4],[18]),(9003004,[0,3,4],[18]),(11009005,[0,3,4],[18]),(19002006,[3],[18]),(1000000009003004,[16,2000000000000018],[])]
noncomputable def AM1:List (Nat×List Nat×List Nat):=[(1002000,[0],[1]),(2001000,[0],[17]),(3001001,[1],[1]),(4001002,[0,1,3],[1,17,19]),(5002001,[0],[17]),(5005003,[1,3,4],[1]),(6004003,[0,3,4],[17,19]),(10003004,[0,1,3,4],[1,17,19]),(12009005,[0,1,3,4],[1,17,19]),(20002006,[0,1,3,7,8],[19])]
noncomputable def AM2:List (Nat×List Nat×List Nat):=[(1002000,[0],[1,14]),(2001000,[0],[]),(2001005,[],[]),(3001001,[0,1],[1,14]),(4001002,[0,1,3],[1,14,21]),(4008002,[0,3],[]),(6004003,[1,3,4],[1,14,21]),(10003004,[0,1,3,4],[1,14,21]),(12003003,[0,3],[]),(12004005,[1,3,4],[1,14,21]),(14006004,[0,3],[]),(15003006,[1,3,4,5],[1,14,21]),(18005007,[1,3,4,5],[1,14,21]),(20004006,[0],[]),(22002008,[3],[21])]
noncomputable def AM3:List (Nat×List Nat×List Nat):=[(2001000,[0],[]),(4001004,[0,3],[]),(5003001,[0],[]),(9004003,[0],[]),(12004005,[0,3,4],[]),(16003006,[0,3,4],[]),(18007007,[0,3,4],[]),(24002008,[3],[])]
noncomputable def AM4:List (Nat×List Nat×List Nat):=[(1002000,[0],[1]),(2003000,[0,1],[2]),(5022001,[2,3],[2,3]),(7004001,[1,2],[1]),(11001002,[2,8,9,10],[1]),(12003003,[2,8,9,10],[1]),(14003004,[2,4,8,9,10],[1]),(17001005,[2,8,9,10,14,15,16],[1]),(18003006,[2,8,9,10,14,15,16],[1]),(20001007,[2,6,8,9,10,14,15,16],[1]),(21003008,[2,8,9,10,14,15,16],[1]),(23002009,[2,8,9,10,14,15,16],[1]),(24002010,[2,8,9,10],[1]),(25002011,[2],[])]
noncomputable def AM5:List (Nat×List Nat×List Nat):=[(2002000,[0,1],[2]),(7004001,[1,2,4],[2,25]),(11001002,[1,4,8,9,10],[2,25]),(12006003,[1,4,8,9,10],[2,25]),(15004004,[1,4,5,6,8,9,10],[2,6,25]),(19008005,[1,4,5,6,8,9,10],[2,6,25]),(26002006,[1,4,8,9,10],[2,25]),(27002007,[4],[25])]
noncomputable def AM6:List (Nat×List Nat×List Nat):=[(2002000,[0,1],[2]),(4001002,[],[]),(4001007,[],[]),(4001008,[],[]),(4001009,[],[]),(5001003,[1,2],[2]),(6006001,[1,2],[2]),(7006001,[1,2],[2]),(12004004,[1,2,5],[2]),(13003003,[1,2],[2]),(16001004,[2,13,14,15],[2]),(16003005,[1,2,5],[2]),(17005005,[2,13,14,15],[2]),(18011006,[1,2,5],[2]),(20008006,[2,5,6,13,14,15],[2]),(28002008,[2,13,14,15],[2])]
noncomputable def AM7:List (Nat×List Nat×List Nat):=[(2002000,[0,1],[2]),(3002000,[0,1,2],[3]),(5001001,[1,2],[2]),(6001002,[1,2,5],[2,30]),(6001005,[],[]),(6001007,[],[]),(7005003,[1,2,5,6],[2,30]),(9004001,[1,2,3],[3]),(12003004,[1,2,5,6],[2,30]),(13001002,[1,2,10,11,12],[3]),(14006003,[1,2,10,11,12],[3]),(14006005,[1,2,5,6],[2,30]),(17014004,[1,2,7,8,10,11,12],[3,8]),(20012006,[1,2,5,6],[2,30]),(31002006,[1,2,10,11,12],[3]),(31002007,[5],[30])]
noncomputable def BAT:List (Nat×List Nat×List Nat):=[(2002000,[0,1],[2,4,5,30]),(4001002,[],[]),(4001007,[],[]),(4001008,[],[]),(5001003,[1,2],[2]),(6004001,[1,2],[2]),(10005004,[1,2,5],[2]),(15003005,[1,2,5],[2]),(17016006,[1,2,5],[2])]
noncomputable def AM8:List (Nat×List Nat×List Nat):=[(1002000,[0],[1]),(2002000,[0,1],[2]),(3001000,[0,1],[]),(3001001,[1],[1]),(3002000,[0,1,2],[3]),(3003000,[0,1,2],[3,30]),(4001002,[1,3],[1]),(4001005,[],[]),(4033001,[0,3],[3]),(5001001,[1,2],[2]),(5001005,[1,3,4],[1]),(6001002,[],[]),(6001007,[],[]),(6001008,[],[]),(6002005,[],[]),(6004002,[1,2,5],[2]),(6005003,[1,3,4],[1]),(7001003,[1,2,3],[3]),(8012001,[1,2,3],[3]),(10003003,[1,2,5],[2]),(11003001,[1,2,3],[3,30]),(11003004,[1,3,4],[1]),(12016004,[1,2,5],[2]),(13002002,[1,2,3,8],[3,30]),(13008006,[1,3,4,5],[1]),(15003003,[8],[]),(16010004,[1,2,3],[3,30]),(20004004,[1,2,3,7],[3]),(21003007,[1,3,4,5],[1]),(23008008,[1,3,4,5],[1]),(24003005,[1,2,3,7],[3]),(26008006,[1,2,3,7],[3]),(27009006,[1,2,3],[3,30]),(28007006,[1,2],[2]),(31003009,[1,3,4,5],[1]),(33002010,[3],[]),(33003007,[9],[3,30]),(1000000016010004,[],[20010])]
noncomputable def BAU:List (Nat×List Nat×List Nat):=[(2002000,[0,1],[2]),(5001001,[1,2],[2]),(6001002,[1,2,5],[2,29]),(8005003,[1,2,5,6],[2,29]),(13003004,[1,2,5,6],[2,29]),(15006005,[1,2,5,6],[2,29]),(20016006,[1,2,5,6,7],[2,29]),(34002007,[5],[29])]
noncomputable def AM9:List (Nat×List Nat×List Nat):=[(5003000,[0,1,2,3,4],[5]),(13014001,[2,3,4,5,6,10],[5,6,10]),(25001002,[10,11,12],[10]),(26002003,[10,12],[10]),(27001004,[10,12],[10]),(28002005,[10],[10]),(29007006,[10],[10]),(35002007,[10],[10])]
noncomputable def ANA:List (Nat×List Nat×List Nat):=[(2002000,[0,1],[2,7,32]),(2003000,[0,1],[2,16]),(4001007,[],[]),(4002002,[],[]),(5001001,[1,2],[2,7]),(6001003,[1,2],[2,16]),(8003002,[1,2,5],[2,7]),(9006001,[1,2],[2,16]),(11001003,[1,2,5,8,9,10],[2,7]),(12006004,[1,2,5,8,9,10],[2,7]),(15004004,[1,2,6],[2,16,31]),(15006005,[1,2,5,6,7,8,9,10],[2,7]),(19001005,[1,2,6,16,17,18],[2,16,31]),(20006006,[1,2,6,16,17,18],[2,16,31]),(20012006,[1,2,5,6,7,8,9,10],[2,7]),(23010007,[1,2,6,7,8,16,17,18],[2,8,16,31]),(32002008,[1,2,5,6,8,9,10,16,17,18],[2,7,16,31]),(33005009,[2,5],[2,7]),(33006009,[2,6],[2,16,31]),(1000000033006009,[31],[])]
noncomputable def ANB:List (Nat×List Nat×List Nat):=[(3002000,[0,1,2],[3]),(9014001,[1,2,3],[3]),(19020002,[1,2,7,8],[7,8])]
noncomputable def BAV:List (Nat×List Nat×List Nat):=[(1002000,[0],[1]),(2001002,[],[]),(3028001,[1],[1]),(31009003,[1],[1])]
noncomputable def ANC:List (Nat×List Nat×List Nat):=[(3003000,[0,1,2],[3,21,30,42]),(6002007,[],[]),(13003001,[1,2,3],[3,21,30,42]),(15002002,[1,2,3,8],[3,21,30,42]),(17003003,[1,2,3,7,8],[3,23,38]),(19008004,[1,2,3],[3,21,30,42]),(25011005,[2,3,9,10],[3,21,30,42]),(33006006,[3,9,10,11,12],[3,21,30,42]),(39006008,[3,9,11],[3,21,30,42])]
noncomputable def AND:List (Nat×List Nat×List Nat):=[(4005000,[0,1,2,3],[4]),(7001000,[0,1,2,3,4,5],[]),(7001008,[],[]),(7001010,[],[]),(10002001,[3,5,6],[5,6]),(10004001,[0,1,2,3,4,5],[]),(12001002,[3,5,6,10,11],[5,6]),(14004003,[3,5,6,10,11,12],[5,6]),(14011002,[1,2,3,4],[]),(18003004,[3,5,6,10,11,12],[5,6]),(20013005,[3,5,6,10,11,12],[5,6]),(24007003,[0,1,2,5],[]),(31001004,[0,1,5,28,29,30],[]),(32003005,[0,1,5,28,29,30],[]),(32004006,[3,5,6,10,11,12,13],[5,6]),(34005006,[0,1,5,9,28,29,30],[]),(35008007,[3,5,6,10,11,12,13],[5,6]),(38005007,[0,1,5,28,29,30],[]),(42004008,[10,11],[]),(43002009,[0,1,5,28,29,30],[]),(1000000014011002,[],[20009,30009])]
noncomputable def ANE:List (Nat×List Nat×List Nat):=[(3002000,[0,1,2],[3]),(9001004,[2,6,8,12,13,14],[8,48]),(12003001,[1,2,6],[48]),(15001002,[2,6,12,13,14],[48]),(16004003,[2,6,12,13,14],[48]),(18019005,[2,6,8,9,12,13,14],[8,48]),(37001006,[2,6,9,12,13,14,34,35,36],[48]),(38004007,[2,6,9,12,13,14,34,35,36],[48]),(40005008,[2,6,9,11,12,13,14,34,35,36],[11,48]),(44002009,[2,6,9,12,13,14,34,35,36],[48]),(45005010,[2,6,9,12,13,14],[48]),(49002011,[2,6,12,13,14],[48]),(50002012,[6],[48])]
noncomputable def ANF:List (Nat×List Nat×List Nat):=[(1002000,[0],[1]),(2001002,[],[]),(2001007,[],[]),(2001012,[],[]),(2001013,[],[]),(3001003,[1],[1]),(3004000,[0,1,2],[3]),(4001008,[1],[1]),(5022001,[1],[1]),(6001002,[],[]),(8007001,[3,4,5],[3,4,5]),(15024003,[3,4,5],[3,4,5]),(27005004,[1,3],[1]),(32003005,[1,3],[1]),(34007006,[1,3],[1]),(38018004,[3,4,5,7],[3,4,5]),(41005009,[1,4],[1]),(46003010,[1,4],[1]),(48007011,[1,4],[1])]
noncomputable def BAW:List (Nat×List Nat×List Nat):=[(1002000,[0],[1,2,3,9,12,30,56]),(4001002,[1,2,3],[1,2,3,9,12,30,56]),(5001006,[1,2,3],[1,2,3,9,12,30,56]),(7009001,[1,2],[1,2,30,56]),(14005003,[1,2,3,4],[1,2,3,9,12,30,56]),(19003004,[1,2,3,4],[1,2,3,9,12,30,56]),(21012005,[1,2,3,4],[1,2,3,9,12,30,56]),(32005007,[1,2,3,5],[1,2,3,9,12,30,56]),(37003008,[1,2,3,5],[1,2,3,9,12,30,56]),(39007009,[1,2,3,5],[1,2,3,9,12,30,56]),(44015010,[1,2,3,5,6],[1,2,3,6,9,12,30,56]),(58002011,[2,3],[1,2,3,9,12,30,56]),(1000000019003004,[28,2000000000000030],[])]
noncomputable def BAX:List (Nat×List Nat×List Nat):=[(4003000,[0,1,2,3],[4]),(8001002,[],[]),(8001020,[],[]),(8001021,[],[]),(10001004,[3,4,9],[4,9]),(11001016,[3,4,9,10],[4,9]),(12005001,[2,3,4,5],[4,5]),(17003003,[3,4,5],[4,5]),(18004005,[3,4,9,10],[4,9]),(22003006,[3,4,9,10],[4,9]),(24001007,[3,4,9,10],[4,9]),(26002008,[3,4,9,10,24],[4,9]),(27005009,[3,4,9,10],[4,9]),(32002010,[3,4,9,10,24],[4,9]),(33005011,[3,4,9,10],[4,9]),(38002012,[3,4,9,10,24],[4,9]),(39005013,[3,4,9,10],[4,9]),(44002014,[3,4,9,10,24],[4,9]),(45005015,[3,4,9,10],[4,9]),(49005017,[3,4,9,10,11],[4,9]),(54003018,[3,4,9,10,11],[4,9]),(56007019,[3,4,9,10,11],[4,9])]
noncomputable def ANG:List (Nat×List Nat×List Nat):=[(4003000,[0,1,2,3],[4]),(14006001,[1,2,4,7,8],[4,7,8]),(20001002,[1,2,4,7,8,17,18,19],[4,7,8]),(21005003,[1,2,4,7,8,17,18,19],[4,7,8]),(24003004,[1,2,4,7,8,9,10,17,18,19],[4,7,8]),(25003005,[1,2,4,7,8,9,10,11,17,18,19],[4,7,8,11]),(28001006,[1,2,4,7,8,9,11,17,18,19,25,26,27],[4,7,8,11]),(29003007,[1,2,4,7,8,9,11,17,18,19,25,26,27],[4,7,8,11]),(31022008,[1,2,4,7,8,9,11,13,17,18,19,25,26,27],[4,7,8,11]),(52002009,[1,2,4,7,8,9,11,17,18,19,25,26,27],[4,7,8,11]),(53012010,[1,2,4,7,8,11,17,18,19],[4,7,8,11]),(64002011,[1,2,4,7,8,17,18,19],[4,7,8]),(65002012,[8],[8])]
noncomputable def ANH:List (Nat×List Nat×List Nat):=[(3003000,[0,1,2],[3]),(13003001,[1,2,3,6,7],[3,63]),(16001002,[1,2,3,6,7,14,15],[3,63]),(17002003,[1,2,3,6,7,14,15],[3,63]),(18004004,[1,2,3,6,7,8,14,15],[3,63]),(21003005,[1,2,3,6,7,8,9,14,15],[3,20,63]),(24001006,[1,2,3,6,7,8,9,14,15,22,23],[3,20,63]),(25002007,[1,2,3,6,7,8,9,14,15,22,23],[3,20,63]),(26003008,[1,2,3,6,7,8,9,10,14,15,22,23],[3,20,63]),(29001009,[1,2,3,6,7,8,9,10,14,15,22,23,26,27,28],[3,20,63]),(30005010,[1,2,3,6,7,8,9,10,14,15,22,23,26,27,28],[3,20,63]),(33018011,[1,2,3,6,7,8,9,10,11,12,14,15,22,23,26,27,28],[3,20,63]),(51002012,[1,2,3,6,7,8,9,10,14,15,22,23,26,27,28],[3,20,63]),(52008013,[1,2,3,6,7,8,9,10,14,15,22,23],[3,20,63]),(59002014,[1,2,3,6,7,8,9,14,15,22,23],[3,20,63]),(60005015,[1,2,3,6,7,9,14,15],[3,20,63]),(64002016,[1,2,3,6,7,14,15],[3,63]),(65004017,[6,7],[63]),(1000000060005015,[20],[])]
noncomputable def BAY:List (Nat×List Nat×List Nat):=[(1002000,[0],[1,2,3,16,19,22,40,65]),(4001002,[1,2,3],[1,2,3,16,19,22,40,65]),(5001006,[1,2,3],[1,2,3,16,19,22,40,65]),(6020001,[1,2],[1,2,40,65]),(24005003,[1,2,3,4],[1,2,3,16,19,22,40,65]),(29003004,[1,2,3,4],[1,2,3,16,19,22,40,65]),(31012005,[1,2,3,4],[1,2,3,16,19,22,40,65]),(42005007,[1,2,3,5],[1,2,3,16,19,22,40,65]),(47003008,[1,2,3,5],[1,2,3,16,19,22,40,65]),(49019009,[1,2,3,5],[1,2,3,16,19,22,40,65]),(67002010,[2,3],[1,2,3,16,19,22,40,65])]
noncomputable def ANI:List (Nat×List Nat×List Nat):=[(1010,[7,8,9],[2,7,8,24,25,26,28,30,63,800,801,802,803,804]),(2003000,[0,1],[2,7,24,25,26,28,30,63,800,801,802,803,804]),(4002005,[],[]),(4002018,[],[]),(8002007,[2,7],[2,7,24,25,26,28,30,63,800,801,802,803,804]),(9001009,[7,8,31],[2,7,8,24,25,26,28,30,63,800,801,802,803,804]),(12003001,[1,2],[2,7,24,25,26,28,30,63,800,801,802,803,804]),(14002002,[1,2,6],[2,7,24,25,26,28,30,63,800,801,802,803,804]),(16003003,[6],[]),(17003004,[1,2],[2,7,24,25,26,28,30,63,800,801,802,803,804]),(20011006,[2],[2,30,63]),(29002008,[2,7,8],[2,7,8,24,25,26,28,30,63,800,801,802,803,804]),(32003011,[7,9],[2,7,24,25,26,28,30,63,800,801,802,803,804]),(35001012,[7,32,33,34],[2,7,24,25,26,28,30,63,800,801,802,803,804]),(36005013,[7,32,33,34],[2,7,24,25,26,28,30,63,800,801,802,803,804]),(39010014,[7,10,11,32,33,34],[2,7,24,25,26,28,30,63,800,801,802,803,804]),(49017015,[7,10,11,32,33,34],[2,7,24,25,26,28,30,63,800,801,802,803,804]),(65002016,[7,32,33,34],[2,7,24,25,26,28,30,63,800,801,802,803,804]),(66002017,[7,8],[2,7,8,24,25,26,28,30,63,800,801,802,803,804]),(68003019,[7],[2,7,24,25,26,28,30,63,800,801,802,803,804]),(1000000039010014,[],[20800,20801,20802,20803,20804]),(1000000065002016,[25008011801063],[]),(1000000068003019,[1000000000000024,24,901025,902026,903028],[])]
noncomputable def ANJ:List (Nat×List Nat×List Nat):=[(4002000,[0,1,2,3],[]),(6001001,[1,2,3,4],[4]),(8010002,[1,2,3,4,6],[4]),(17006003,[2,3,4],[4]),(23010004,[1,2,3,4,6],[4]),(32006005,[2,3,4],[4]),(38010006,[1,2,3,4,6],[4]),(47006007,[2,3,4],[4]),(53010008,[1,2,3,4,6],[4]),(62006009,[2,3,4],[4]),(67005010,[3,6],[])]
noncomputable def ANK:List (Nat×List Nat×List Nat):=[(1002000,[0],[1,24]),(2001002,[],[]),(2001007,[],[]),(2001009,[],[]),(2001011,[],[]),(2001016,[],[]),(2001021,[],[]),(2001022,[],[]),(4001012,[1],[1,24]),(5001017,[1],[1,24]),(6004001,[1],[1,24]),(10004003,[1],[1,24]),(13002004,[1,3],[1,24]),(15002005,[3],[]),(16006006,[1],[1,24]),(22005008,[1],[1,24]),(27007010,[1],[1,24]),(34005013,[1,4],[1,24]),(39003014,[1,4],[1,24]),(41010015,[1,4],[1,24]),(51005018,[1,5],[1,24]),(56003019,[1,5],[1,24]),(58018020,[1,5],[1,24])]
noncomputable def ANL:List (Nat×List Nat×List Nat):=[(1003000,[0],[1,22,51,53,80]),(2002002,[],[]),(2002008,[],[]),(10001013,[7,9,54,55,56],[1,22,51,53,80]),(13004001,[1],[1,22,51,53,80]),(18010003,[1],[1,22,51,53,80]),(25002004,[1,4,5],[1,22,51,53,80]),(27003005,[5],[]),(28003006,[1,4],[1,22,51,53,80]),(30020007,[1,4,6],[1,22,51,53,80]),(50005009,[1,4],[1,22,51,53,80]),(54003010,[4,7],[1,22,51,53,80]),(57001011,[7,54,55,56],[1,22,51,53,80]),(58003012,[7,54,55,56],[1,22,51,53,80]),(60003014,[7,9,10,54,55,56],[1,10,22,51,53,80]),(63001015,[7,10,54,55,56,60,61,62],[1,10,22,51,53,80]),(64006016,[7,10,54,55,56,60,61,62],[1,10,22,51,53,80]),(67006017,[7,10,11,12,54,55,56,60,61,62],[1,10,12,22,51,53,80]),(72002018,[7,10,54,55,56,60,61,62],[1,10,22,51,53,80]),(73011019,[7,10,54,55,56],[1,10,22,51,53,80]),(83002020,[7,54,55,56],[1,22,51,53,80]),(84003021,[7],[1,22,51,53,80]),(1000000084003021,[80,911051,912053],[])]
noncomputable def BAZ:List (Nat×List Nat×List Nat):=[(3002000,[0,1,2],[3]),(7001001,[1,2,3],[3]),(8001002,[1,2,3,7],[3,87]),(9001005,[1,2,3,7,8],[3,87]),(10001006,[1,2,3,7,8,9],[3,83,87]),(11001009,[1,2,3,7,8,9,10],[3,83,87]),(12001010,[1,2,3,7,8,9,10,11],[3,11,83,87]),(15004003,[1,2,3,7,8],[3,87]),(19003004,[1,2,3,7,8],[3,87]),(21004007,[1,2,3,7,8,9,10],[3,83,87]),(25003008,[1,2,3,7,8,9,10],[3,83,87]),(27004011,[1,2,3,7,8,9,10,11,12],[3,11,83,87]),(31003012,[1,2,3,7,8,9,10,11,12],[3,11,83,87]),(33031013,[1,2,3,7,8,9,10,11,12],[3,11,83,87]),(62001014,[1,2,3,7,8,9,10,11,12,13,14],[3,11,83,87]),(63005015,[1,2,3,7,8,9,10,11,12,13,14],[3,11,83,87]),(67001016,[1,2,3,7,8,9,10,11,12,13,14],[3,11,83,87]),(68005017,[1,2,3,7,8,9,10,11,12,13,14],[3,11,83,87]),(72004018,[1,2,3,7,8,9,10,11,12,13,14],[3,11,83,87]),(76005019,[1,2,3,7,8,9,10,11,12],[3,11,83,87]),(80005020,[1,2,3,7,8,9,10,11],[3,11,83,87]),(84005021,[1,2,3,7,8,9],[3,83,87]),(88002022,[7],[87]),(1000000084005021,[83],[])]
noncomputable def ANM:List (Nat×List Nat×List Nat):=[(2004000,[0,1],[2,3,17,900,901,902]),(8001004,[2,3,6],[2,3,17,900,901,902]),(15008001,[2,3],[2,3,17,900,901,902]),(20002002,[2,3,6,7],[2,3,17,900,901,902]),(22003003,[7],[]),(23003005,[2,3,6,8],[2,3,17,87]),(26001006,[2,3,6,8,24,25],[2,3,17,87]),(27002007,[2,3,6,8,24,25],[2,3,17,87]),(28004008,[2,3,6,8,9,24,25],[2,3,17,87]),(31003009,[2,3,6,8,9,10,24,25],[2,3,17,30,87]),(34001010,[2,3,6,8,9,10,24,25,32,33],[2,3,17,30,87]),(35002011,[2,3,6,8,9,10,24,25,32,33],[2,3,17,30,87]),(36005012,[2,3,6,8,9,10,11,24,25,32,33],[2,3,17,30,87]),(39003013,[2,3,6,8,9,10,11,12,24,25,32,33],[2,3,12,17,30,87]),(42001014,[2,3,6,8,9,10,11,12,24,25,32,33,40,41],[2,3,12,17,30,87]),(43002015,[2,3,6,8,9,10,11,12,24,25,32,33,40,41],[2,3,12,17,30,87]),(44021016,[2,3,6,8,9,10,11,12,13,24,25,32,33,40,41],[2,3,12,17,30,87]),(64002017,[2,3,6,8,9,10,11,12,24,25,32,33,40,41],[2,3,12,17,30,87]),(65020018,[2,3,6,8,9,10,11,12,24,25,32,33],[2,3,12,17,30,87]),(83002019,[2,3,6,8,9,10,24,25,32,33],[2,3,17,30,87]),(84005020,[2,3,6,8,10,24,25],[2,3,17,30,87]),(88002021,[2,3,6,8,24,25],[2,3,17,87]),(89003022,[8],[87]),(1000000008001004,[902],[]),(1000000084005020,[30],[])]
noncomputable def yZ:List (Nat×List Nat×List Nat):=[(1002000,[0],[1,20,21,26,27,102,103,104]),(2001003,[],[]),(2001005,[],[]),(2001007,[],[]),(2001008,[],[]),(3002000,[0,1,2],[3]),(5006001,[1],[1]),(6001004,[],[]),(6001017,[],[]),(6001018,[],[]),(10001005,[1,2,3,7,8,9],[3,8]),(10026002,[1,3,4],[1]),(11001009,[1,2,3,7,8,9,10],[3,8]),(12001012,[1,2,3,7,8,9,10,11],[3,8]),(14004001,[1,2,3],[3]),(17012002,[1,2,3,7],[3]),(26023003,[1,2,3,7,8,9],[3,8]),(36046004,[1,3,4],[1]),(49003006,[1,2,3,7,8,9,10],[3,8]),(52003007,[1,2,3,7,8,9,10],[3,8]),(54008008,[1,2,3,7,8,9,10],[3,8]),(62007010,[1,2,3,7,8,9,10,11],[3,8]),(69003011,[1,2,3,7,8,9,10,11],[3,8]),(71003013,[1,2,3,7,8,9,10,11,12],[3,8]),(74003014,[1,2,3,7,8,9,10,11,12],[3,8]),(76013015,[1,2,3,7,8,9,10,11,12],[3,8]),(82031006,[1,3,4],[1]),(88024016,[1,2,3,7,8,9,10,11,12,13],[3,8])]
noncomputable def AZB:List (Nat×List Nat×List Nat):=[(3002000,[0,1,2],[3,30,32,34,35,41,50,80]),(6001006,[],[]),(6001013,[],[]),(6001019,[],[]),(9001008,[1,2,3,7,8],[3,30,32,34,35,41,50,80]),(11001014,[1,3,7,10],[3,30,32,34,35,41,50,80]),(14013001,[1,2,3],[3,30,32,34,35,41,50,80]),(27002002,[],[]),(29012003,[1,2,3],[3,30,32,34,35,41,50,80]),(38003004,[1,2,3,7,8],[3,30,32,34,35,41,50,80]),(40005005,[1,2,3,7,8,9],[3,30,32,34,35,41,50,80]),(45017007,[1,2,3,7,8,9],[3,30,32,34,35,41,80]),(62002009,[1,2,3,7,8,9],[3,30,32,34,35,41,50,80]),(64012010,[7,8,9],[3,30,32,34,35,41,50,80]),(75007011,[1,2,3,7,8],[3,30,32,34,35,41,50,80]),(81009012,[1,3,7,8,10],[3,30,32,34,35,41,50,80]),(90004015,[1,3,7,10,11],[3,30,32,34,35,41,50,80]),(94003016,[1,3,7,10,11],[3,30,32,34,35,41,50,80]),(97017017,[1,3,7,10,11],[3,30,32,34,35,41,50,80]),(111006018,[1,3,7,10,11,12],[3,30,32,34,35,41,50,80]),(117002020,[],[])]
noncomputable def AZC:List (Nat×List Nat×List Nat):=[(1002000,[0],[1]),(2001002,[],[]),(2001004,[],[]),(2001009,[],[]),(2001014,[],[]),(2001019,[],[]),(2001024,[],[]),(2001025,[],[]),(3001005,[1],[1]),(4001010,[1,3],[1]),(5001015,[1],[1]),(6001020,[1],[1]),(7025001,[1],[1]),(32057003,[1],[1]),(89004006,[1,3],[1]),(93003007,[1,3],[1]),(95016008,[1,3],[1]),(111008011,[1,3,4],[1]),(119003012,[1,3,4],[1]),(121018013,[1,3,4],[1]),(139005016,[1,5],[1]),(144003017,[1,5],[1]),(146008018,[1,5],[1]),(154005021,[1,6],[1]),(159003022,[1,6],[1]),(161020023,[1,6],[1])]
noncomputable def ANN:List (Nat×List (Nat×List Nat×List Nat)):=[(5,an5),(6,an6),(8,an8),(9,an9),(11,AMT),(12,AMU),(13,AMV),(14,AMW),(15,AMX),(16,AMY),(18,AMZ),(19,AM0),(20,BAS),(21,AM1),(23,AM2),(25,AM3),(26,AM4),(28,AM5),(29,AM6),(32,AM7),(33,BAT),(34,AM8),(35,BAU),(36,AM9),(37,ANA),(38,ANB),(39,BAV),(43,ANC),(44,AND),(51,ANE),(55,ANF),(59,BAW),(63,BAX),(66,ANG),(67,ANH),(68,BAY),(69,ANI),(71,ANJ),(76,ANK),(85,ANL),(89,BAZ),(90,ANM),(112,yZ),(118,AZB),(181,AZC)]
def pth:Nat→Nat→List Nat
 | 0,_=>[]
 | f+1,n=>cond (Nat.ble n 1) [] (n % 2 :: pth f (n / 2))
noncomputable def rg(f:Func)(n:Nat):Code:=KK (APB f) (pth 200 n)
noncomputable def ann:Ann:=fun N i=>match XF ANN N with
 | some l=>XF l i
 | none=>none
noncomputable def kn:CF0:=lT [(19,[],.bool true)]
attribute [simp] AW ZV
@[simp] theorem hr0:AK Tryz.prog 0=false:=by kernel_rfl
@[simp] theorem hr1:AK Tryz.prog 1=false:=by kernel_rfl
@[simp] theorem aX:AK Tryz.prog 2=false:=by kernel_rfl
@[simp] theorem hr3:AK Tryz.prog 3=false:=by kernel_rfl
@[simp] theorem hr4:AK Tryz.prog 4=false:=by kernel_rfl
@[simp] theorem hr5:AK Tryz.prog 5=false:=by kernel_rfl
@[simp] theorem hr6:AK Tryz.prog 6=false:=by kernel_rfl
@[simp] theorem hr7:AK Tryz.prog 7=false:=by kernel_rfl
@[simp] theorem hr8:AK Tryz.prog 8=false:=by kernel_rfl
@[simp] theorem hr9:AK Tryz.prog 9=false:=by kernel_rfl
@[simp] theorem BLZ:AK Tryz.prog 10=false:=by kernel_rfl
@[simp] theorem BL0:AK Tryz.prog 11=false:=by kernel_rfl
@[simp] theorem BL1:AK Tryz.prog 12=false:=by kernel_rfl
@[simp] theorem BL2:AK Tryz.prog 13=false:=by kernel_rfl
@[simp] theorem BL3:AK Tryz.prog 14=false:=by kernel_rfl
@[simp] theorem BL4:AK Tryz.prog 15=false:=by kernel_rfl
@[simp] theorem BL5:AK Tryz.prog 16=false:=by kernel_rfl
@[simp] theorem BL6:AK Tryz.prog 17=false:=by kernel_rfl
@[simp] theorem BL7:AK Tryz.prog 18=false:=by kernel_rfl
@[simp] theorem BL8:AK Tryz.prog 19=false:=by kernel_rfl
@[simp] theorem BL9:AK Tryz.prog 20=false:=by kernel_rfl
@[simp] theorem BMA:AK Tryz.prog 21=false:=by kernel_rfl
@[simp] theorem BMB:AK Tryz.prog 22=false:=by kernel_rfl
@[simp] theorem BMC:AK Tryz.prog 23=false:=by kernel_rfl
@[simp] theorem BMD:AK Tryz.prog 24=false:=by kernel_rfl
@[simp] theorem BME:AK Tryz.prog 25=false:=by kernel_rfl
@[simp] theorem BMF:AK Tryz.prog 26=false:=by kernel_rfl
@[simp] theorem BMG:AK Tryz.prog 27=false:=by kernel_rfl
@[simp] theorem BMH:AK Tryz.prog 28=false:=by kernel_rfl
@[simp] theorem BMI:AK Tryz.prog 29=false:=by kernel_rfl
@[simp] theorem BMJ:AK Tryz.prog 30=false:=by kernel_rfl
@[simp] theorem BMK:AK Tryz.prog 31=false:=by kernel_rfl
@[simp] theorem BML:AK Tryz.prog 32=false:=by kernel_rfl
@[simp] theorem BMM:AK Tryz.prog 33=false:=by kernel_rfl
@[simp] theorem BMN:AK Tryz.prog 34=false:=by kernel_rfl
@[simp] theorem BMO:AK Tryz.prog 35=false:=by kernel_rfl
@[simp] theorem BMP:AK Tryz.prog 36=false:=by kernel_rfl
@[simp] theorem BMQ:AK Tryz.prog 37=false:=by kernel_rfl
@[simp] theorem BMR:AK Tryz.prog 38=false:=by kernel_rfl
@[simp] theorem BMS:AK Tryz.prog 39=false:=by kernel_rfl
@[simp] theorem BMT:AK Tryz.prog 40=false:=by kernel_rfl
@[simp] theorem BMU:AK Tryz.prog 41=false:=by kernel_rfl
@[simp] theorem BMV:AK Tryz.prog 42=false:=by kernel_rfl
@[simp] theorem BMW:AK Tryz.prog 43=false:=by kernel_rfl
@[simp] theorem BMX:AK Tryz.prog 44=false:=by kernel_rfl
@[simp] theorem BMY:AK Tryz.prog 45=false:=by kernel_rfl
@[simp] theorem BMZ:AK Tryz.prog 46=false:=by kernel_rfl
@[simp] theorem BM0:AK Tryz.prog 47=false:=by kernel_rfl
@[simp] theorem BM1:AK Tryz.prog 48=false:=by kernel_rfl
@[simp] theorem BM2:AK Tryz.prog 49=false:=by kernel_rfl
@[simp] theorem BM3:AK Tryz.prog 50=false:=by kernel_rfl
@[simp] theorem BM4:AK Tryz.prog 51=false:=by kernel_rfl
@[simp] theorem BM5:AK Tryz.prog 52=false:=by kernel_rfl
@[simp] theorem BM6:AK Tryz.prog 53=false:=by kernel_rfl
@[simp] theorem BM7:AK Tryz.prog 54=false:=by kernel_rfl
@[simp] theorem BM8:AK Tryz.prog 55=false:=by kernel_rfl
@[simp] theorem BM9:AK Tryz.prog 56=false:=by kernel_rfl
@[simp] theorem BNA:AK Tryz.prog 57=false:=by kernel_rfl
@[simp] theorem BNB:AK Tryz.prog 58=false:=by kernel_rfl
@[simp] theorem BNC:AK Tryz.prog 59=false:=by kernel_rfl
@[simp] theorem BND:AK Tryz.prog 60=false:=by kernel_rfl
@[simp] theorem BNE:AK Tryz.prog 61=false:=by kernel_rfl
@[simp] theorem BNF:AK Tryz.prog 62=false:=by kernel_rfl
@[simp] theorem BNG:AK Tryz.prog 63=false:=by kernel_rfl
@[simp] theorem BNH:AK Tryz.prog 64=false:=by kernel_rfl
@[simp] theorem BNI:AK Tryz.prog 65=false:=by kernel_rfl
@[simp] theorem BNJ:AK Tryz.prog 66=false:=by kernel_rfl
@[simp] theorem BNK:AK Tryz.prog 67=false:=by kernel_rfl
@[simp] theorem BNL:AK Tryz.prog 68=false:=by kernel_rfl
@[simp] theorem BNM:AK Tryz.prog 69=false:=by kernel_rfl
@[simp] theorem BNN:AK Tryz.prog 70=false:=by kernel_rfl
@[simp] theorem BNO:AK Tryz.prog 71=true:=by kernel_rfl
@[simp] theorem BNP:AK Tryz.prog 72=false:=by kernel_rfl
@[simp] theorem BNQ:AK Tryz.prog 73=false:=by kernel_rfl
@[simp] theorem BNR:AK Tryz.prog 74=false:=by kernel_rfl
@[simp] theorem BNS:AK Tryz.prog 75=false:=by kernel_rfl
@[simp] theorem BNT:AK Tryz.prog 76=false:=by kernel_rfl
@[simp] theorem BNU:AK Tryz.prog 77=false:=by kernel_rfl
@[simp] theorem BNV:AK Tryz.prog 78=false:=by kernel_rfl
@[simp] theorem BNW:AK Tryz.prog 79=false:=by kernel_rfl
@[simp] theorem BNX:AK Tryz.prog 80=false:=by kernel_rfl
@[simp] theorem BNY:AK Tryz.prog 81=false:=by kernel_rfl
@[simp] theorem BNZ:AK Tryz.prog 82=false:=by kernel_rfl
@[simp] theorem BN0:AK Tryz.prog 83=false:=by kernel_rfl
@[simp] theorem BN1:AK Tryz.prog 84=false:=by kernel_rfl
@[simp] theorem BN2:AK Tryz.prog 85=false:=by kernel_rfl
@[simp] theorem BN3:AK Tryz.prog 86=false:=by kernel_rfl
@[simp] theorem BN4:AK Tryz.prog 87=false:=by kernel_rfl
@[simp] theorem BN5:AK Tryz.prog 88=false:=by kernel_rfl
@[simp] theorem BN6:AK Tryz.prog 89=false:=by kernel_rfl
@[simp] theorem BN7:AK Tryz.prog 90=false:=by kernel_rfl
@[simp] theorem BN8:AK Tryz.prog 91=false:=by kernel_rfl
@[simp] theorem BN9:AK Tryz.prog 92=false:=by kernel_rfl
@[simp] theorem BOA:AK Tryz.prog 93=false:=by kernel_rfl
@[simp] theorem BOB:AK Tryz.prog 94=false:=by kernel_rfl
@[simp] theorem BOC:AK Tryz.prog 95=false:=by kernel_rfl
@[simp] theorem BOD:AK Tryz.prog 96=false:=by kernel_rfl
@[simp] theorem BOE:AK Tryz.prog 97=false:=by kernel_rfl
@[simp] theorem BOF:AK Tryz.prog 98=false:=by kernel_rfl
@[simp] theorem BOG:AK Tryz.prog 99=false:=by kernel_rfl
@[simp] theorem BE2:AK Tryz.prog 100=false:=by kernel_rfl
@[simp] theorem BE3:AK Tryz.prog 101=false:=by kernel_rfl
@[simp] theorem BE4:AK Tryz.prog 102=false:=by kernel_rfl
@[simp] theorem BE5:AK Tryz.prog 103=false:=by kernel_rfl
@[simp] theorem BE6:AK Tryz.prog 104=false:=by kernel_rfl
@[simp] theorem BE7:AK Tryz.prog 105=false:=by kernel_rfl
@[simp] theorem BE8:AK Tryz.prog 106=false:=by kernel_rfl
@[simp] theorem BE9:AK Tryz.prog 107=false:=by kernel_rfl
@[simp] theorem BFA:AK Tryz.prog 108=false:=by kernel_rfl
@[simp] theorem BFB:AK Tryz.prog 109=false:=by kernel_rfl
@[simp] theorem BFC:AK Tryz.prog 110=false:=by kernel_rfl
@[simp] theorem BFD:AK Tryz.prog 111=false:=by kernel_rfl
@[simp] theorem BFE:AK Tryz.prog 112=false:=by kernel_rfl
@[simp] theorem BFF:AK Tryz.prog 113=false:=by kernel_rfl
@[simp] theorem BFG:AK Tryz.prog 114=false:=by kernel_rfl
@[simp] theorem BFH:AK Tryz.prog 115=false:=by kernel_rfl
@[simp] theorem BFI:AK Tryz.prog 116=false:=by kernel_rfl
@[simp] theorem BFJ:AK Tryz.prog 117=false:=by kernel_rfl
@[simp] theorem BFK:AK Tryz.prog 118=false:=by kernel_rfl
@[simp] theorem BFL:AK Tryz.prog 119=false:=by kernel_rfl
@[simp] theorem BFM:AK Tryz.prog 120=false:=by kernel_rfl
@[simp] theorem BFN:AK Tryz.prog 121=false:=by kernel_rfl
@[simp] theorem BFO:AK Tryz.prog 122=false:=by kernel_rfl
@[simp] theorem BFP:AK Tryz.prog 123=false:=by kernel_rfl
@[simp] theorem BFQ:AK Tryz.prog 124=false:=by kernel_rfl
@[simp] theorem BFR:AK Tryz.prog 125=false:=by kernel_rfl
@[simp] theorem BFS:AK Tryz.prog 126=false:=by kernel_rfl
@[simp] theorem BFT:AK Tryz.prog 127=false:=by kernel_rfl
@[simp] theorem BFU:AK Tryz.prog 128=false:=by kernel_rfl
@[simp] theorem BFV:AK Tryz.prog 129=false:=by kernel_rfl
@[simp] theorem BFW:AK Tryz.prog 130=false:=by kernel_rfl
@[simp] theorem BFX:AK Tryz.prog 131=false:=by kernel_rfl
@[simp] theorem BFY:AK Tryz.prog 132=false:=by kernel_rfl
@[simp] theorem BFZ:AK Tryz.prog 133=false:=by kernel_rfl
@[simp] theorem BF0:AK Tryz.prog 134=false:=by kernel_rfl
@[simp] theorem BF1:AK Tryz.prog 135=false:=by kernel_rfl
@[simp] theorem BF2:AK Tryz.prog 136=false:=by kernel_rfl
@[simp] theorem BF3:AK Tryz.prog 137=false:=by kernel_rfl
@[simp] theorem BF4:AK Tryz.prog 138=false:=by kernel_rfl
@[simp] theorem BF5:AK Tryz.prog 139=false:=by kernel_rfl
@[simp] theorem BF6:AK Tryz.prog 140=false:=by kernel_rfl
@[simp] theorem BF7:AK Tryz.prog 141=false:=by kernel_rfl
@[simp] theorem BF8:AK Tryz.prog 142=false:=by kernel_rfl
@[simp] theorem BF9:AK Tryz.prog 143=false:=by kernel_rfl
@[simp] theorem BGA:AK Tryz.prog 144=false:=by kernel_rfl
@[simp] theorem BGB:AK Tryz.prog 145=false:=by kernel_rfl
@[simp] theorem BGC:AK Tryz.prog 146=false:=by kernel_rfl
@[simp] theorem BGD:AK Tryz.prog 147=false:=by kernel_rfl
@[simp] theorem BGE:AK Tryz.prog 148=false:=by kernel_rfl
@[simp] theorem BGF:AK Tryz.prog 149=false:=by kernel_rfl
@[simp] theorem BGG:AK Tryz.prog 150=false:=by kernel_rfl
@[simp] theorem BGH:AK Tryz.prog 151=false:=by kernel_rfl
@[simp] theorem BGI:AK Tryz.prog 152=false:=by kernel_rfl
@[simp] theorem BGJ:AK Tryz.prog 153=false:=by kernel_rfl
@[simp] theorem BGK:AK Tryz.prog 154=true:=by kernel_rfl
@[simp] theorem BGL:AK Tryz.prog 155=false:=by kernel_rfl
@[simp] theorem BGM:AK Tryz.prog 156=false:=by kernel_rfl
@[simp] theorem BGN:AK Tryz.prog 157=false:=by kernel_rfl
@[simp] theorem BGO:AK Tryz.prog 158=false:=by kernel_rfl
@[simp] theorem BGP:AK Tryz.prog 159=false:=by kernel_rfl
@[simp] theorem BGQ:AK Tryz.prog 160=false:=by kernel_rfl
@[simp] theorem BGR:AK Tryz.prog 161=false:=by kernel_rfl
@[simp] theorem BGS:AK Tryz.prog 162=false:=by kernel_rfl
@[simp] theorem BGT:AK Tryz.prog 163=false:=by kernel_rfl
@[simp] theorem BGU:AK Tryz.prog 164=false:=by kernel_rfl
@[simp] theorem BGV:AK Tryz.prog 165=false:=by kernel_rfl
@[simp] theorem BGW:AK Tryz.prog 166=false:=by kernel_rfl
@[simp] theorem BGX:AK Tryz.prog 167=false:=by kernel_rfl
@[simp] theorem BGY:AK Tryz.prog 168=false:=by kernel_rfl
@[simp] theorem BGZ:AK Tryz.prog 169=false:=by kernel_rfl
@[simp] theorem BG0:AK Tryz.prog 170=false:=by kernel_rfl
@[simp] theorem BG1:AK Tryz.prog 171=false:=by kernel_rfl
@[simp] theorem BG2:AK Tryz.prog 172=false:=by kernel_rfl
@[simp] theorem BG3:AK Tryz.prog 173=false:=by kernel_rfl
@[simp] theorem BG4:AK Tryz.prog 174=false:=by kernel_rfl
@[simp] theorem BG5:AK Tryz.prog 175=false:=by kernel_rfl
@[simp] theorem BG6:AK Tryz.prog 176=false:=by kernel_rfl
@[simp] theorem BG7:AK Tryz.prog 177=false:=by kernel_rfl
@[simp] theorem BG8:AK Tryz.prog 178=false:=by kernel_rfl
@[simp] theorem BG9:AK Tryz.prog 179=false:=by kernel_rfl
@[simp] theorem BHA:AK Tryz.prog 180=false:=by kernel_rfl
@[simp] theorem BHB:AK Tryz.prog 181=false:=by kernel_rfl
@[simp] theorem BHC:AK Tryz.prog 182=false:=by kernel_rfl
@[simp] theorem BHD:AK Tryz.prog 183=false:=by kernel_rfl
@[simp] theorem BHE:AK Tryz.prog 184=false:=by kernel_rfl
@[simp] theorem BHF:AK Tryz.prog 185=false:=by kernel_rfl
@[simp] theorem BHG:AK Tryz.prog 186=false:=by kernel_rfl
@[simp] theorem BHH:AK Tryz.prog 187=false:=by kernel_rfl
@[simp] theorem BHI:AK Tryz.prog 188=false:=by kernel_rfl
@[simp] theorem BHJ:AK Tryz.prog 189=false:=by kernel_rfl
@[simp] theorem BHK:AK Tryz.prog 190=false:=by kernel_rfl
@[simp] theorem BHL:AK Tryz.prog 191=false:=by kernel_rfl
@[simp] theorem BHM:AK Tryz.prog 192=false:=by kernel_rfl
@[simp] theorem BHN:AK Tryz.prog 193=false:=by kernel_rfl
@[simp] theorem BHO:AK Tryz.prog 194=false:=by kernel_rfl
@[simp] theorem BHP:AK Tryz.prog 195=false:=by kernel_rfl
@[simp] theorem BHQ:AK Tryz.prog 196=false:=by kernel_rfl
@[simp] theorem BHR:AK Tryz.prog 197=false:=by kernel_rfl
@[simp] theorem BHS:AK Tryz.prog 198=false:=by kernel_rfl
@[simp] theorem BHT:AK Tryz.prog 199=false:=by kernel_rfl
abbrev tq(n:Tmp):Operand:=.tmp n
abbrev ci(n:Int):Operand:=.const (.int .i64 n)
abbrev cb(b:Bool):Operand:=.const (.bool b)
abbrev oq(d:Tmp)(k:IK):HK:=⟨none,some d,k⟩
abbrev os(k:IK):HK:=⟨none,none,k⟩
abbrev og(g:Tmp)(b:Bool)(d:Tmp)(k:IK):HK:=⟨some (g,b),some d,k⟩
abbrev ox(g:Tmp)(b:Bool)(k:IK):HK:=⟨some (g,b),none,k⟩
abbrev RX(N:Nat)(r:Code)(i:IR)(a:Tr):Prop:=∀(n:Nat) (st:XS),AE Tryz.prog ann kn (n+1) N r st=PN (JN Tryz.prog (BQ Tryz.prog ann kn n) i (CB a st))
theorem rx{N:Nat}{r:Code}{i:IR}{a:Tr}(hr:sE r=true:=by kernel_rfl)(hi:sD Tryz.prog (VK r) (OG r)=i:=by kernel_rfl)(hok:okR Tryz.prog (VK r) (OG r)=true:=by kernel_rfl)(ha:ann N (BN r)=a:=by kernel_rfl)(ht:ann N (BN r+MQ)=none:=by kernel_rfl):RX N r i a:=fun _ _=>ACT hr hi hok ha ht
abbrev SX(N:Nat)(r:Code)(l:List HK)(a b:List Nat):Prop:=RX N r (.str l) (some (a,b))
abbrev UX(N:Nat)(a b:Code):Prop:=∀(n:Nat)(st:XS),AE Tryz.prog ann kn n N a st=AE Tryz.prog ann kn n N b st
abbrev LX(N:Nat)(b:Code)(x y:List Nat):Prop:=ann N (BN b)=some (x,y)
theorem lx{N:Nat}{b:Code}{x y:List Nat}(h:ann N (BN b)=some (x,y):=by kernel_rfl):LX N b x y:=h
abbrev GX(N:Nat)(r:Code)(i:IR)(a b ks:List Nat):Prop:=∀(n:Nat)(st:XS),AE Tryz.prog ann kn (n+1) N r st=PN (JN Tryz.prog (BQ Tryz.prog ann kn n) i (CB (some (a,b)) (N6 ks st)))
abbrev lp(h:Code)(t e b:Nat)(x y:Code):Code:=.seq (.seq h (.cond (.tmp t) .skip (.exit e))) (.seq (.block b x) y)
abbrev om(d s:Nat):HK:=oq d (.mv (tq s))
abbrev oe(d s T:Nat):HK:=oq d (.oth (.call ⟨.builtin .len,#[tq s],#[T]⟩))
abbrev oi(d T a b:Nat):HK:=oq d (.oth (.indexAddr T (tq a) (tq b)))
abbrev ol(d T a:Nat):HK:=oq d (.ld T (tq a))
abbrev oz(d T a k:Nat):HK:=oq d (.fa T (tq a) k)
abbrev ob(d:Nat)(b:BinOp)(T a c:Nat):HK:=oq d (.bin b T (tq a) (tq c))
abbrev oc(d:Nat)(b:BinOp)(T a:Nat)(k:Int):HK:=oq d (.bin b T (tq a) (ci k))
abbrev od(d f:Nat)(l:List Operand):HK:=oq d (.call false none (.func f) l)
abbrev ot(d:Nat)(b:Bool):HK:=oq d (.mv (cb b))
abbrev ok(d:Nat)(k:Int):HK:=oq d (.mv (ci k))
abbrev ou(d a:Nat):HK:=oq d (.oth (.unOp .not 4 (tq a)))
abbrev gm(g:Nat)(b:Bool)(d s:Nat):HK:=og g b d (.mv (tq s))
abbrev gl(g:Nat)(b:Bool)(d T a:Nat):HK:=og g b d (.ld T (tq a))
abbrev gz(g:Nat)(b:Bool)(d T a k:Nat):HK:=og g b d (.fa T (tq a) k)
abbrev gi(g:Nat)(b:Bool)(d T a c:Nat):HK:=og g b d (.oth (.indexAddr T (tq a) (tq c)))
abbrev ge(g:Nat)(b:Bool)(d s T:Nat):HK:=og g b d (.oth (.call ⟨.builtin .len,#[tq s],#[T]⟩))
abbrev gb(g:Nat)(b:Bool)(d:Nat)(o:BinOp)(T a c:Nat):HK:=og g b d (.bin o T (tq a) (tq c))
abbrev gc(g:Nat)(b:Bool)(d:Nat)(o:BinOp)(T a:Nat)(k:Int):HK:=og g b d (.bin o T (tq a) (ci k))
abbrev gd(g:Nat)(b:Bool)(d f:Nat)(l:List Operand):HK:=og g b d (.call false none (.func f) l)
end Go.Proofs.Tryz.Op
